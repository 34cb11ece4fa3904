/- The integers of the reference. No condition. Sums and differences of the reference's integers. No condition. The lowest bits of a number; a real number of the reference and its exponent. No condition. A real number of the reference: an integer times a power of 2; its exponent. No condition. A real number in steps; a part rounded. No condition. A part rounded; the greatest float; what is beyond it. No condition. The greatest float, what is beyond it. No condition. The reference's rounding is the program's. No condition. Canonical floats, counted. No condition. The exact sum of floats. No condition. The reference's sum is the program's. No condition. The reference's Total. No condition. What the laws of sums compare. No condition. The law SumTotals. No condition. The law SumAdds. No condition. The package variables of the program, as they are laid, and what a law's arguments are. No condition. Rounding to the nearest: how near, and when exactly. No condition. Division by 1; a ratio by 1, rounded. No condition. Conversions, plain. No condition. -/
import Derived.Test.YtokgalpflooegaaDoorMh
import Derived.Test.YtokgalpflooegaaDoorMf
import Derived.Test.YtokgalpflooegaaDoorRows
import Derived.LaidMore
import Derived.LaidHandle
import Derived.Stop.Joined
import Derived.Carry
import Derived.OpenShut
import Derived.Test.YtokgalpflooegaaDoorMd
/- The integers of the reference. No condition. -/
namespace Go.Proofs.YtokgalpflooegaaDoor
set_option linter.unusedVariables false
set_option linter.unusedSimpArgs false
variable {G : Gl}
set_option maxHeartbeats 2000000
set_option maxRecDepth 10000
/-- An integer's fields. -/
abbrev Ig (n : Bool) (m : List Nat) : PV := .a [.b n, .w false m]
/-- A canonical integer. -/
abbrev Iv (z : Int) : PV := Ig (decide (z < 0)) (nat z.natAbs)
/-- The value of a sign and a size. -/
def sgn (n : Bool) (v : Nat) : Int := if n then -(v : Int) else v
theorem sgn_abs (n : Bool) (v : Nat) : (sgn n v).natAbs = v := by unfold sgn; split <;> omega
theorem sgn_of (z : Int) : sgn (decide (z < 0)) z.natAbs = z := by unfold sgn; split <;> rename_i h <;> simp at h <;> omega
theorem nat_len_zero (v : Nat) : 0 < (nat v).length ↔ v ≠ 0 := by
  constructor
  · intro h h0; subst h0; rw [nat_zero] at h; simp at h
  · intro h
    apply Classical.byContradiction
    intro hn
    have : nat v = [] := List.length_eq_zero_iff.1 (by omega)
    have h2 := val_nat v
    rw [this] at h2
    simp [val] at h2
    omega
theorem PLe.ig {n : Bool} {c : Ce} {m : List Nat} (h : PLe (.c c) (.c (.w false m))) : PLe (.a [.b n, c]) (Ig n m) := by
  rintro E v ⟨vs, h1, h2⟩
  refine ⟨vs, h1, ?_⟩
  obtain ⟨v1, r1, e1, a1, h2⟩ := h2.cons_iff
  obtain ⟨v2, r2, e2, a2, h2⟩ := h2.cons_iff
  rw [e1, e2]
  exact .cons a1 (.cons (h _ _ a2) h2)
theorem IMake_does {n : Bool} {m : List Nat} (hm : m.length ≤ 1073741824) (wm : Ws m) : Does Tryd.prog G 106 [.c (.b n), Wd m] (.v (Iv (sgn n (val m)))) := by
  have hT := @RTrim_does G m hm wm
  have hz := nat_len_zero (val m)
  generalize hv : val m = v at *
  refine Does.of (nt := 15) Tryd.func106 rfl rfl rfl (by simp) ?_
  simp only [argTm, PV.ext, Ce.ext]
  refine Do.seqk fun _ k1_ => ?_
  refine Do.region [0,1,4] true ?_
  simp [go_sem]
  apply k1_; clear k1_
  refine Do.seqk fun _ k2_ => ?_
  refine Do.region [0,1,4] true ?_
  simp [go_sem]
  refine DoL.call true 102 rfl rfl rfl rfl (by first | exact trivial | omega | (simp; done) | (simp; omega)) (hT) rfl (by first | exact .inl rfl | exact .inr rfl) rfl ?_
  simp [go_sem]
  apply k2_; clear k2_
  refine Do.seqk fun _ k3_ => ?_
  refine Do.region [4] true ?_
  simp [go_sem]
  repeat (refine And.intro (by first | omega | (intros; omega) | (intros; exact And.intro (by assumption) (by omega)) | grind) ?_)
  apply k3_; clear k3_
  refine Do.ret ?_
  simp [endQ, rets, ret1, go_sem]
  repeat (refine And.intro (by first | omega | (intros; omega) | (intros; exact And.intro (by assumption) (by omega)) | grind) ?_)
  have e : (n && decide (0 < (nat v).length)) = decide (sgn n v < 0) := by
    by_cases h : v = 0
    · have h2 : ¬ 0 < (nat v).length := fun hh => hz.1 hh h
      have h4 : nat 0 = [] := nat_zero
      subst h
      cases n <;> simp [h4, sgn]
    · have h3 := hz.2 h
      cases n <;> simp only [sgn, h3, decide_true, Bool.and_true, Bool.false_and, if_true, if_false, Bool.false_eq_true] <;> simp <;> omega
  rw [e]
  show TLe _ (.v (Ig (decide (sgn n v < 0)) (nat (sgn n v).natAbs)))
  rw [sgn_abs]
  exact TLe.v (PLe.ig (PLe.ext (.c (.w true _))))
theorem ITrim_does {n : Bool} {m : List Nat} (hm : m.length ≤ 1073741824) (wm : Ws m) : Does Tryd.prog G 82 [Ig n m] (.v (Iv (sgn n (val m)))) := by
  have hM := @IMake_does G n m hm wm
  generalize sgn n (val m) = z at *
  refine Does.of (nt := 8) Tryd.func82 rfl rfl rfl (by simp) ?_
  simp only [argTm, PV.ext, Ce.ext]
  refine Do.seqk fun _ k1_ => ?_
  refine Do.region [1,2] true ?_
  simp [go_sem]
  apply k1_; clear k1_
  refine Do.seqk fun _ k2_ => ?_
  refine Do.region [2] true ?_
  simp [go_sem]
  repeat (refine And.intro (by first | omega | (intros; omega) | (intros; exact And.intro (by assumption) (by omega)) | grind) ?_)
  refine DoL.call true 105 rfl rfl rfl rfl (by first | exact trivial | omega | (simp; done) | (simp; omega)) (hM) rfl (by first | exact .inl rfl | exact .inr rfl) rfl ?_
  simp [go_sem]
  repeat (refine And.intro (by first | omega | (intros; omega) | (intros; exact And.intro (by assumption) (by omega)) | grind) ?_)
  apply k2_; clear k2_
  refine Do.ret ?_
  simp [endQ, rets, ret1, go_sem]
  repeat (refine And.intro (by first | omega | (intros; omega) | (intros; exact And.intro (by assumption) (by omega)) | grind) ?_)
  exact TLe.refl _
end Go.Proofs.YtokgalpflooegaaDoor
/- Sums and differences of the reference's integers. No condition. -/
namespace Go.Proofs.YtokgalpflooegaaDoor
set_option linter.unusedVariables false
set_option linter.unusedSimpArgs false
variable {G : Gl}
set_option maxHeartbeats 4000000
set_option maxRecDepth 10000
theorem bl_le_ws {m : List Nat} (wm : Ws m) : bl (val m) ≤ 64 * m.length := bl_le_len wm (Nat.le_refl _)
theorem nat_len_of {v k : Nat} (h : bl v ≤ k) : (nat v).length ≤ k := Nat.le_trans (nat_len_bl v) h
theorem cmpP_ge (a b : Nat) : (0 ≤ cmpP a b) = (b ≤ a) := by
  unfold cmpP
  apply propext
  split
  · constructor <;> intro <;> omega
  · split <;> constructor <;> intro <;> omega
end Go.Proofs.YtokgalpflooegaaDoor
/- The lowest bits of a number; a real number of the reference and its exponent. No condition. -/
namespace Go.Proofs.YtokgalpflooegaaDoor
set_option linter.unusedVariables false
set_option linter.unusedSimpArgs false
variable {G : Gl}
set_option maxHeartbeats 4000000
set_option maxRecDepth 10000
theorem PLe.agg {l l' : List Ce} (h : All2 (fun c d => PLe (.c c) (.c d)) l l') : PLe (.a l) (.a l') := by
  rintro E v ⟨vs, h1, h2⟩
  refine ⟨vs, h1, ?_⟩
  clear h1
  generalize vs.toList = ws at *
  induction h generalizing ws with
  | nil => exact h2
  | cons g _ ih =>
    obtain ⟨w, r, rfl, a, b⟩ := h2.cons_iff
    exact .cons (g _ _ a) (ih _ b)
/-- The i-th word of what s bits hold. -/
theorem low_word {n s i : Nat} (h : 64 * i < s) : n % 2 ^ s / 18446744073709551616 ^ i % 18446744073709551616 = if s - 64 * i < 64 then n / 18446744073709551616 ^ i % 18446744073709551616 % 2 ^ (s - 64 * i) else n / 18446744073709551616 ^ i % 18446744073709551616 := by
  obtain ⟨q, rfl⟩ : ∃ q, s = 64 * i + q := ⟨s - 64 * i, by omega⟩
  rw [B64_pow, Nat.pow_add, Nat.mod_mul_right_div_self, show 64 * i + q - 64 * i = q by omega]
  generalize n / 2 ^ (64 * i) = m
  split
  · rename_i hq
    have e : (18446744073709551616 : Nat) = 2 ^ q * 2 ^ (64 - q) := by rw [← Nat.pow_add, show q + (64 - q) = 64 by omega]
    have l1 : m % 2 ^ q < 18446744073709551616 := by
      have := Nat.mod_lt m (Nat.pow_pos (n := q) (show 0 < 2 by decide))
      have : 2 ^ q < 2 ^ 64 := Nat.pow_lt_pow_right (by decide) hq
      omega
    rw [Nat.mod_eq_of_lt l1, e, Nat.mod_mul_right_mod]
  · rename_i hq
    obtain ⟨t, rfl⟩ : ∃ t, q = 64 + t := ⟨q - 64, by omega⟩
    rw [Nat.pow_add, show (2 : Nat) ^ 64 = 18446744073709551616 from rfl, Nat.mod_mul_right_mod]
end Go.Proofs.YtokgalpflooegaaDoor
/- A real number of the reference: an integer times a power of 2; its exponent. No condition. -/
namespace Go.Proofs.YtokgalpflooegaaDoor
set_option linter.unusedVariables false
set_option linter.unusedSimpArgs false
variable {G : Gl}
set_option maxHeartbeats 4000000
set_option maxRecDepth 10000
/-- The real number v 2^e with a sign. -/
abbrev Rl (n : Bool) (v : Nat) (e : Int) : PV := .a [.b n, .w false (nat v), .w false (nat 1), .i .i64 e, .i .i64 1]
end Go.Proofs.YtokgalpflooegaaDoor
/- A real number in steps; a part rounded. No condition. -/
namespace Go.Proofs.YtokgalpflooegaaDoor
set_option linter.unusedVariables false
set_option linter.unusedSimpArgs false
variable {G : Gl}
set_option maxHeartbeats 4000000
set_option maxRecDepth 10000
/-- A part: an integer, a half, a rest. -/
abbrev Pt (N : Nat) (h r : Bool) : PV := .a [.w false (nat N), .b h, .b r]
theorem pt_le {N : Nat} {h r : Bool} {c : Ce} (hc : PLe (.c c) (.c (.w false (nat N)))) : TLe (tvOf [.a [c, .b h, .b r]]) (.v (Pt N h r)) :=
  TLe.v (PLe.agg (.cons hc (.cons (PLe.refl _) (.cons (PLe.refl _) .nil))))
end Go.Proofs.YtokgalpflooegaaDoor
/- A part rounded; the greatest float; what is beyond it. No condition. -/
namespace Go.Proofs.YtokgalpflooegaaDoor
set_option linter.unusedVariables false
set_option linter.unusedSimpArgs false
variable {G : Gl}
set_option maxHeartbeats 4000000
set_option maxRecDepth 10000
/-- What lies beyond the integer: 0 nothing, 1 less than a half, 2 a half, 3 more. -/
def pcode (h s : Bool) : Int := if h then (if s then 3 else 2) else (if s then 1 else 0)
theorem ret_wb {c : Ce} {M N : Nat} {b b' : Bool} (h : PLe (.c c) (.c (.w false (nat M)))) (h1 : M = N) (h2 : b = b') : TLe (tvOf [.c c, .c (.b b)]) (.t [Wd (nat N), .c (.b b')]) := by
  subst h1; subst h2
  exact TLe.t (.cons h (.cons (PLe.refl _) .nil))
end Go.Proofs.YtokgalpflooegaaDoor
/- The greatest float, what is beyond it. No condition. -/
namespace Go.Proofs.YtokgalpflooegaaDoor
set_option linter.unusedVariables false
set_option linter.unusedSimpArgs false
variable {G : Gl}
set_option maxHeartbeats 4000000
set_option maxRecDepth 10000
/-- A float whose words are its own. -/
abbrev Flt.pw (x : Flt) : PV := .a [.i .i64 x.k, .b x.n, .i .i64 x.e, .w true (nat x.v)]
theorem PLe.flw {k : Int} {n : Bool} {e : Int} {c : Ce} {m : List Nat} (h : PLe (.c c) (.c (.w true m))) : PLe (.a [.i .i64 k, .b n, .i .i64 e, c]) (.a [.i .i64 k, .b n, .i .i64 e, .w true m]) :=
  PLe.agg (.cons (PLe.refl _) (.cons (PLe.refl _) (.cons (PLe.refl _) (.cons h .nil))))
theorem Flt.pw_le (x : Flt) : PLe x.pw x.pv := PLe.flt (PLe.ext (.c (.w true _)))
theorem ret_zw {n : Nat} (h : n = 0) : PLe (.c .z) (.c (.w true (nat n))) := by subst h; rw [nat_zero]; exact PLe.z true
theorem ret_w1 {k : Int} {n : Bool} {e : Int} {c : Ce} {x : Flt} (h : PLe (.c c) (.c (.w true (nat x.v)))) (h1 : (k, n, e) = (x.k, x.n, x.e)) : TLe (tvOf [.a [.i .i64 k, .b n, .i .i64 e, c]]) (.v x.pw) := by
  simp only [Prod.mk.injEq] at h1
  obtain ⟨rfl, rfl, rfl⟩ := h1
  exact TLe.v (PLe.flw h)
theorem Does.mono {P : Program} {G : Gl} {f : FuncId} {args : List PV} {ret ret' : TV} (h : Does P G f args ret) (hle : TLe ret ret') : Does P G f args ret' := by
  intro W ok vals hok hgl hargs
  rcases h W ok vals hok hgl hargs with ⟨h1, h2⟩ | ⟨v, h1, h2⟩
  · exact .inl ⟨h1, h2.mono fun e W' ⟨v, q1, q2, q3⟩ => ⟨v, q1, q2, hle _ _ q3⟩⟩
  · exact .inr ⟨v, h1, hle _ _ h2⟩
theorem Canonical_new {k e : Int} {n : Bool} {m : List Nat} (hm : m.length ≤ 1073741824) (wm : Ws m) (he : Md e) : Does Tryd.prog G 123 [Fl k n e m] (.v (rcanon ⟨k, n, e, val m⟩).pw) := by
  have ho : Does Tryd.prog G 93 [Fl k n e m] (.t [Wn (nat (val m / 2 ^ tz (val m))), .c (.i .i64 (e + tz (val m)))]) := odd_does hm wm he
  refine Does.of (nt := 23) Tryd.func123 rfl rfl rfl (by simp) ?_
  simp only [argTm, PV.ext, Ce.ext]
  refine Do.seqk fun _ k1_ => ?_
  refine Do.region [1,2] true ?_
  simp [go_sem]
  apply k1_; clear k1_
  refine Do.seqk fun _ k2_ => ?_
  refine Do.seqk fun _ k3_ => ?_
  refine Do.region [1,2,7] true ?_
  simp [go_sem]
  repeat (refine And.intro (by first | omega | (intros; omega) | (intros; exact And.intro (by assumption) (by omega)) | grind) ?_)
  apply k3_; clear k3_
  refine Do.cond [1,2] rfl (fun h => ?_) (fun h => ?_) <;> simp [go_sem] at h ⊢
  · refine Do.seqk fun _ k4_ => ?_
    refine Do.region [2] true ?_
    simp [go_sem]
    repeat (refine And.intro (by first | omega | (intros; omega) | (intros; exact And.intro (by assumption) (by omega)) | grind) ?_)
    apply k4_; clear k4_
    refine Do.ret ?_
    simp [endQ, rets, ret1, go_sem]
    repeat (refine And.intro (by first | omega | (intros; omega) | (intros; exact And.intro (by assumption) (by omega)) | grind) ?_)
    rw [rcanon, if_neg h]
    exact ret_w1 (ret_zw rfl) rfl
  · refine Do.skip ?_
    simp [go_sem]
    apply k2_; clear k2_
    refine Do.seqk fun _ k5_ => ?_
    refine Do.region [1,2,3,4] true ?_
    simp [go_sem]
    repeat (refine And.intro (by first | omega | (intros; omega) | (intros; exact And.intro (by assumption) (by omega)) | grind) ?_)
    refine DoL.call true 302 rfl rfl rfl rfl (by first | exact trivial | omega | (simp; done) | (simp; omega)) (ho) rfl (by first | exact .inl rfl | exact .inr rfl) rfl ?_
    simp [go_sem]
    apply k5_; clear k5_
    refine Do.seqk fun _ k6_ => ?_
    refine Do.region [2] true ?_
    simp [go_sem]
    repeat (refine And.intro (by first | omega | (intros; omega) | (intros; exact And.intro (by assumption) (by omega)) | grind) ?_)
    apply k6_; clear k6_
    refine Do.ret ?_
    simp [endQ, rets, ret1, go_sem]
    repeat (refine And.intro (by first | omega | (intros; omega) | (intros; exact And.intro (by assumption) (by omega)) | grind) ?_)
    rw [rcanon, if_pos h]
    exact TLe.refl _
theorem Top_does {f p : Int} (hf : fmOk f p = true) : Does Tryd.prog G 63 [Fm f p] (.v (Flt.pw ⟨1, false, gOfE f - p + 1, 2 ^ p.toNat - 1⟩)) := by
  obtain ⟨b1, b2, b3, b4⟩ := fmOk_spec hf
  obtain ⟨b5, b6⟩ := gOfE_le b1 b2
  have hG := @RGreatest_does G f p hf
  obtain ⟨P, rfl⟩ : ∃ P : Nat, p = P := ⟨p.toNat, by omega⟩
  rw [Int.toNat_natCast]
  have hW := @RWord_does G 1 (by decide)
  have h1 := @RLeft_does G (nat 1) P (by rw [nat_one]; decide) (nat_ws _) (by omega)
  rw [val_nat, Nat.one_mul] at h1
  have hp : 1 ≤ 2 ^ P := Nat.pow_pos (by decide)
  have hl : (nat (2 ^ P)).length ≤ 257 := nat_len_of (by have : bl (2 ^ P) ≤ P + 1 := (bl_lt _ _).2 (Nat.pow_lt_pow_right (by decide) (by omega)); omega)
  have h2 := @RSub_does G (nat (2 ^ P)) (nat 1) (by omega) (nat_ws _) (by rw [nat_one]; decide) (nat_ws _) (by rw [val_nat, val_nat]; exact hp)
  rw [val_nat, val_nat] at h2
  generalize 2 ^ P = Q at *
  generalize gOfE f = g at *
  refine Does.of (nt := 18) Tryd.func63 rfl rfl rfl (by simp) ?_
  simp only [argTm, PV.ext, Ce.ext]
  refine Do.seqk fun _ k1_ => ?_
  refine Do.region [1,2] true ?_
  simp [go_sem]
  apply k1_; clear k1_
  refine Do.seqk fun _ k2_ => ?_
  refine Do.region [1,2,3] true ?_
  simp [go_sem]
  refine DoL.call true 101 rfl rfl rfl rfl (by first | exact trivial | omega | (simp; done) | (simp; omega)) (hW) rfl (by first | exact .inl rfl | exact .inr rfl) rfl ?_
  simp [go_sem]
  apply k2_; clear k2_
  refine Do.seqk fun _ k3_ => ?_
  refine Do.draw [2] true (by kernel_rfl) ?_
  simp [go_sem]
  repeat (refine And.intro (by first | omega | (intros; omega) | (intros; exact And.intro (by assumption) (by omega)) | kernel_rfl | grind) ?_)
  refine DoLD.call true 202 rfl rfl rfl rfl (by first | exact trivial | omega | (simp; done) | (simp; omega)) (hG) rfl (by first | exact .inl rfl | exact .inr rfl) rfl ?_
  simp [go_sem]
  repeat (refine And.intro (by first | omega | (intros; omega) | (intros; exact And.intro (by assumption) (by omega)) | kernel_rfl | grind) ?_)
  refine DoLD.call true 210 rfl rfl rfl rfl (by first | exact trivial | omega | (simp; done) | (simp; omega)) (h1) rfl (by first | exact .inl rfl | exact .inr rfl) rfl ?_
  simp [go_sem]
  refine DoLD.call true 212 rfl rfl rfl rfl (by first | exact trivial | omega | (simp; done) | (simp; omega)) (h2) rfl (by first | exact .inl rfl | exact .inr rfl) rfl ?_
  simp [go_sem]
  repeat (refine And.intro (by first | omega | (intros; omega) | (intros; exact And.intro (by assumption) (by omega)) | kernel_rfl | grind) ?_)
  try (refine And.intro (by kernel_rfl) ?_)
  apply k3_; clear k3_
  refine Do.ret ?_
  simp [endQ, rets, ret1, go_sem]
  repeat (refine And.intro (by first | omega | (intros; omega) | (intros; exact And.intro (by assumption) (by omega)) | grind) ?_)
  exact TLe.refl _
/-- What is beyond the greatest float. -/
def beyP (f p r : Int) (n : Bool) : Flt := if grP r n then ⟨1, n, gOfE f - p + 1, 2 ^ p.toNat - 1⟩ else ⟨2, n, 0, 0⟩
end Go.Proofs.YtokgalpflooegaaDoor
/- The reference's rounding is the program's. No condition. -/
namespace Go.Proofs.YtokgalpflooegaaDoor
set_option linter.unusedVariables false
set_option linter.unusedSimpArgs false
variable {G : Gl}
set_option maxHeartbeats 4000000
set_option maxRecDepth 10000
theorem bl_div (v k : Nat) : bl (v / 2 ^ k) = bl v - k := by
  have h : ∀ j, j < bl (v / 2 ^ k) ↔ j + k < bl v := fun j => by
    rw [bl_le, bl_le, Nat.le_div_iff_mul_le (Nat.pow_pos (by decide)), ← Nat.pow_add]
  apply Nat.le_antisymm
  · apply Nat.le_of_not_lt
    intro hl
    have := (h (bl v - k)).1 hl
    omega
  · apply Nat.le_of_not_lt
    intro hl
    have := (h (bl (v / 2 ^ k))).2 (by omega)
    omega
theorem cutP_len {v : Nat} (hv : 0 < v) {s : Int} (h : s ≤ bl v) {st : Bool} : (bl (cutP v s st).1 : Int) = bl v - s := by
  unfold cutP
  split
  · simp only []
    rw [bl_mul_pow _ _ hv]; omega
  · simp only []
    rw [bl_div]; omega
theorem upP_ge (r : Int) (n : Bool) (q : Nat) (x : Int) : q ≤ upP r n q x := by unfold upP; split <;> omega
theorem roundP_len {f p r : Int} (hf : fmOk f p = true) {n : Bool} {v : Nat} {e : Int} (hv : 0 < v) (h : 1 - gOfE f ≤ e + bl v - 1) : p ≤ bl (upP r n (cutP v (stepP f p (e + bl v - 1) - e) false).1 (cutP v (stepP f p (e + bl v - 1) - e) false).2) := by
  obtain ⟨b1, b2, b3, b4⟩ := fmOk_spec hf
  have hu : stepP f p (e + bl v - 1) = e + bl v - 1 - p + 1 := by unfold stepP; rw [if_neg (by omega)]
  have h1 := @cutP_len v hv (stepP f p (e + bl v - 1) - e) (by omega) false
  have h2 := bl_mono (upP_ge r n (cutP v (stepP f p (e + bl v - 1) - e) false).1 (cutP v (stepP f p (e + bl v - 1) - e) false).2)
  omega
/-- Too great at once. -/
theorem roundP_over {f p r : Int} (hf : fmOk f p = true) {n : Bool} {v : Nat} {e : Int} (hv : 0 < v) (h : gOfE f < e + bl v - 1) : roundP f p r n v e false = (beyP f p r n, 5) := by
  obtain ⟨b1, b2, b3, b4⟩ := fmOk_spec hf
  obtain ⟨b5, b6⟩ := gOfE_le b1 b2
  have h1 := @roundP_len f p r hf n v e hv (by omega)
  have hu : stepP f p (e + bl v - 1) = e + bl v - 1 - p + 1 := by unfold stepP; rw [if_neg (by omega)]
  unfold roundP beyP
  simp only []
  rw [if_pos (by omega)]
theorem cutP_zero {v : Nat} {s : Int} (hv : 0 < v) (h : (cutP v s false).1 = 0) : (cutP v s false).2 ≠ 0 := by
  unfold cutP at h ⊢
  split at h
  · simp only [] at h
    have := Nat.pow_pos (n := (-s).toNat) (show 0 < 2 by decide)
    have := Nat.mul_pos hv this
    omega
  · rename_i hs
    rw [if_neg hs]
    simp only [] at h ⊢
    have e1 : s.toNat = (s - 1).toNat + 1 := by omega
    rw [e1, Nat.pow_succ] at h
    have hlt : v < 2 ^ (s - 1).toNat * 2 := by
      rcases Nat.div_eq_zero_iff.1 h with h | h
      · have := Nat.pow_pos (n := (s - 1).toNat) (show 0 < 2 by decide); omega
      · exact h
    split
    · split <;> decide
    · rename_i h2
      have h3 : v / 2 ^ (s - 1).toNat < 2 := by
        rw [Nat.div_lt_iff_lt_mul (Nat.pow_pos (by decide)), Nat.mul_comm]; exact hlt
      have h4 : v / 2 ^ (s - 1).toNat = 0 := by
        generalize v / 2 ^ (s - 1).toNat = w at h2 h3 ⊢
        omega
      have h5 : v < 2 ^ (s - 1).toNat := by
        rcases Nat.div_eq_zero_iff.1 h4 with h | h
        · have := Nat.pow_pos (n := (s - 1).toNat) (show 0 < 2 by decide); omega
        · exact h
      rw [Nat.mod_eq_of_lt h5]
      simp; omega
end Go.Proofs.YtokgalpflooegaaDoor
/- Canonical floats, counted. No condition. -/
namespace Go.Proofs.YtokgalpflooegaaDoor
set_option linter.unusedVariables false
set_option linter.unusedSimpArgs false
variable {G : Gl}
set_option maxHeartbeats 4000000
set_option maxRecDepth 10000
/-- How many floats are of a kind and a sign. -/
def cnt (k : Int) (n : Bool) : List Flt → Nat
  | [] => 0
  | x :: l => (if x.k = k ∧ x.n = n then 1 else 0) + cnt k n l
theorem cnt_append (k : Int) (n : Bool) (l m : List Flt) : cnt k n (l ++ m) = cnt k n l + cnt k n m := by
  induction l with
  | nil => simp [cnt]
  | cons x l ih => simp only [List.cons_append, cnt, ih]; omega
theorem cnt_take {k : Int} {n : Bool} {l : List Flt} {i : Nat} {x : Flt} (h : l[i]? = some x) : cnt k n (l.take (i + 1)) = cnt k n (l.take i) + if x.k = k ∧ x.n = n then 1 else 0 := by
  rw [List.take_add_one, h, cnt_append]; simp [cnt]
theorem cnt_le (k : Int) (n : Bool) (l : List Flt) : cnt k n l ≤ l.length := by
  induction l with
  | nil => simp [cnt]
  | cons x l ih => simp only [cnt, List.length_cons]; split <;> omega
end Go.Proofs.YtokgalpflooegaaDoor
/- The exact sum of floats. No condition. -/
namespace Go.Proofs.YtokgalpflooegaaDoor
set_option linter.unusedVariables false
set_option linter.unusedSimpArgs false
variable {G : Gl}
set_option maxHeartbeats 4000000
set_option maxRecDepth 10000
/-- The least exponent so far, and whether there is one. -/
def lowStep (a : Int × Bool) (x : Flt) : Int × Bool := if x.k = 1 ∧ (a.2 = false ∨ x.e < a.1) then (x.e, true) else a
def lows (l : List Flt) : Int × Bool := l.foldl lowStep (0, false)
theorem lows_take {l : List Flt} {i : Nat} {x : Flt} (h : l[i]? = some x) : lows (l.take (i + 1)) = lowStep (lows (l.take i)) x := by
  unfold lows
  rw [List.take_add_one, h]; simp
theorem lows_le {l : List Flt} (i : Nat) : (∀ x ∈ l.take i, x.k = 1 → (lows (l.take i)).2 = true ∧ (lows (l.take i)).1 ≤ x.e) := by
  induction i with
  | zero => simp
  | succ i ih =>
    cases hx : l[i]? with
    | none =>
      have hl : l.length ≤ i := List.getElem?_eq_none_iff.1 hx
      rw [List.take_of_length_le (by omega)] at ih ⊢
      exact ih
    | some x =>
      rw [lows_take hx]
      intro y hy hk
      rw [List.take_add_one, hx] at hy
      simp only [Option.toList_some, List.mem_append, List.mem_singleton] at hy
      generalize lows (l.take i) = a at *
      unfold lowStep
      split
      · rename_i hc
        rcases hy with hy | rfl
        · have := ih y hy hk
          refine ⟨rfl, ?_⟩
          simp only []
          rcases hc.2 with h | h
          · rw [this.1] at h; cases h
          · omega
        · exact ⟨rfl, Int.le_refl _⟩
      · rename_i hc
        rcases hy with hy | rfl
        · exact ih y hy hk
        · by_cases h2 : a.2 = false
          · exact absurd ⟨hk, .inl h2⟩ hc
          · refine ⟨by simpa using h2, ?_⟩
            apply Classical.byContradiction
            intro h3
            exact hc ⟨hk, .inr (by omega)⟩
theorem lows_in {l : List Flt} {B : Int} (hB : 0 ≤ B) (h : ∀ x ∈ l, x.k = 1 → -B ≤ x.e ∧ x.e ≤ B) (i : Nat) : -B ≤ (lows (l.take i)).1 ∧ (lows (l.take i)).1 ≤ B := by
  induction i with
  | zero => simp [lows]; omega
  | succ i ih =>
    cases hx : l[i]? with
    | none =>
      have hl : l.length ≤ i := List.getElem?_eq_none_iff.1 hx
      rw [List.take_of_length_le (by omega)] at ih ⊢
      exact ih
    | some x =>
      rw [lows_take hx]
      have := h x (List.mem_of_getElem? hx)
      generalize lows (l.take i) = a at *
      unfold lowStep
      split
      · rename_i hc; exact this hc.1
      · exact ih
theorem svs_bound {z : Int} {M : Nat} : ∀ {l : List Flt}, (∀ x ∈ l, x.k = 1 → x.v * 2 ^ (x.e - z).toNat ≤ M) → (svs z l).natAbs ≤ l.length * M
  | [], _ => by simp [svs]
  | x :: l, h => by
    have ih := svs_bound (l := l) fun y hy => h y (List.mem_cons_of_mem _ hy)
    have hx := h x (by simp)
    simp only [svs, List.length_cons, Nat.add_mul, Nat.one_mul]
    split
    · rename_i hk
      have := hx hk
      unfold Nu.sv
      simp only []
      generalize x.v * 2 ^ (x.e - z).toNat = w at *
      generalize l.length * M = y at *
      split <;> omega
    · generalize l.length * M = y at *
      omega
theorem svs_take {z : Int} {l : List Flt} {i : Nat} {x : Flt} (h : l[i]? = some x) : svs z (l.take (i + 1)) = svs z (l.take i) + if x.k = 1 then (⟨x.n, x.v, x.e⟩ : Nu).sv z else 0 := by
  rw [List.take_add_one, h, svs_append]; simp [svs]
theorem len_bl {v k : Nat} (h : bl v ≤ k) : (nat v).length ≤ (k + 63) / 64 := by rw [natlen]; omega
/-- Bounds under which exact sums stay small. -/
def Tame (l : List Flt) : Prop := l.length < 1099511627776 ∧ ∀ x ∈ l, (x.k = 1 → -1048576 ≤ x.e ∧ x.e ≤ 1048576 ∧ bl x.v ≤ 1048576)
theorem Tame.term {l : List Flt} (h : Tame l) {z : Int} (hz : -1048576 ≤ z) {x : Flt} (hx : x ∈ l) (hk : x.k = 1) (hze : z ≤ x.e) : bl (x.v * 2 ^ (x.e - z).toNat) ≤ 3145728 := by
  obtain ⟨h1, h2, h3⟩ := h.2 x hx hk
  by_cases h0 : x.v = 0
  · rw [h0]; simp [bl_zero]
  · rw [bl_mul_pow _ _ (by omega)]; omega
theorem Tame.sum {l : List Flt} (h : Tame l) {z : Int} (hz : -1048576 ≤ z) (hl : ∀ x ∈ l, x.k = 1 → z ≤ x.e) (i : Nat) : bl (svs z (l.take i)).natAbs ≤ 3145768 := by
  obtain ⟨K, hK⟩ : ∃ K, K = 3145728 := ⟨_, rfl⟩
  have hb := @svs_bound z (2 ^ K) (l.take i) fun x hx hk => Nat.le_of_lt ((bl_lt _ _).1 (by rw [hK]; exact h.term hz (List.mem_of_mem_take hx) hk (hl x (List.mem_of_mem_take hx) hk)))
  have h1 : (l.take i).length < 2 ^ 40 := Nat.lt_of_le_of_lt (List.length_take_le' i l) h.1
  have h2 : bl (svs z (l.take i)).natAbs ≤ 40 + K := by
    rw [bl_lt]
    refine Nat.lt_of_le_of_lt hb ?_
    rw [Nat.pow_add]
    exact Nat.mul_lt_mul_of_pos_right h1 (Nat.pow_pos (by decide))
  omega
end Go.Proofs.YtokgalpflooegaaDoor
/- The reference's sum is the program's. No condition. -/
namespace Go.Proofs.YtokgalpflooegaaDoor
set_option linter.unusedVariables false
set_option linter.unusedSimpArgs false
variable {G : Gl}
set_option maxHeartbeats 4000000
set_option maxRecDepth 10000
theorem cnt_pos (k : Int) (n : Bool) (l : List Flt) : (0 < cnt k n l) = (l.any (fun x => x.k == k && x.n == n) = true) := by
  induction l with
  | nil => simp [cnt]
  | cons x l ih =>
    simp only [cnt, List.any_cons, Bool.or_eq_true, ← ih]
    by_cases h : x.k = k ∧ x.n = n
    · simp [h]; omega
    · rw [if_neg h]
      have : (x.k == k && x.n == n) = false := by simpa using h
      simp [this]
theorem cnt_all (k : Int) (n : Bool) (l : List Flt) : (cnt k n l = l.length) = (l.all (fun x => x.k == k && x.n == n) = true) := by
  apply propext
  induction l with
  | nil => simp [cnt]
  | cons x l ih =>
    have hle := cnt_le k n l
    rw [List.all_cons, Bool.and_eq_true, ← ih, cnt, List.length_cons]
    by_cases h : x.k = k ∧ x.n = n
    · rw [if_pos h]
      have : (x.k == k && x.n == n) = true := by simpa using h
      exact ⟨fun g => ⟨this, by omega⟩, fun g => by omega⟩
    · rw [if_neg h]
      have : ¬ (x.k == k && x.n == n) = true := by simpa using h
      exact ⟨fun g => by omega, fun g => absurd g.1 this⟩
theorem svs_low {z z' : Int} (hz : z' ≤ z) : ∀ {l : List Flt}, (∀ x ∈ l, x.k = 1 → z ≤ x.e) → svs z' l = svs z l * 2 ^ (z - z').toNat
  | [], _ => by simp [svs]
  | x :: l, h => by
    have ih := svs_low hz (l := l) fun y hy => h y (List.mem_cons_of_mem _ hy)
    have hx := h x (by simp)
    simp only [svs, ih, Int.add_mul]
    congr 1
    split
    · rename_i hk
      unfold Nu.sv
      simp only []
      rw [pow_split hz (hx hk), ← Nat.mul_assoc]
      generalize x.v * 2 ^ (x.e - z).toNat = w
      split <;> simp [Int.natCast_mul, Int.neg_mul, Int.natCast_pow]
    · simp
/-- Kinds as they are; no NaN with a sign. -/
def Kinds (L : List Flt) : Prop := ∀ x ∈ L, (x.k = 0 ∨ x.k = 1 ∨ x.k = 2 ∨ x.k = 3) ∧ (x.k = 3 → x.n = false)
/-- The sum by its parts. -/
theorem float_parts {f p r : Int} {L : List Flt} (ht : Tame L) (hk : Kinds L) : (gatherP L).float f p r =
    if 0 < cnt 3 false L then (⟨3, false, 0, 0⟩, 0)
    else if 0 < cnt 2 true L ∧ 0 < cnt 2 false L then (⟨3, false, 0, 0⟩, 16)
    else if 0 < cnt 2 true L ∨ 0 < cnt 2 false L then (⟨2, decide (0 < cnt 2 true L), 0, 0⟩, 0)
    else if svs (lows L).1 L ≠ 0 then roundP f p r (decide (svs (lows L).1 L < 0)) (svs (lows L).1 L).natAbs (lows L).1 false
    else if 0 < cnt 0 true L ∧ cnt 0 true L = L.length then (⟨0, true, 0, 0⟩, 0) else if cnt 0 false L = L.length then (⟨0, false, 0, 0⟩, 0) else (⟨0, r == 4, 0, 0⟩, 0) := by
  have hlow := @lows_le L L.length
  rw [List.take_length] at hlow
  obtain ⟨z, hz⟩ : ∃ z : Int, z = if (lows L).1 < 0 then (lows L).1 else 0 := ⟨_, rfl⟩
  have hz0 : z ≤ 0 := by split at hz <;> omega
  have hz1 : z ≤ (lows L).1 := by split at hz <;> omega
  have hG := gather_is (z := z) hz0 (l := L) fun x hx hk => by have := (hlow x hx hk).2; omega
  have hsv := svs_low hz1 (l := L) fun x hx hk => (hlow x hx hk).2
  have e3 : (gatherP L).nan = decide (0 < cnt 3 false L) := by
    rw [hG.nan, Bool.eq_iff_iff, decide_eq_true_eq, cnt_pos, List.any_eq_true, List.any_eq_true]
    constructor
    · rintro ⟨x, hx, h⟩
      have h3 : x.k = 3 := by simpa using h
      exact ⟨x, hx, by simp [h3, (hk x hx).2 h3]⟩
    · rintro ⟨x, hx, h⟩
      simp at h
      exact ⟨x, hx, by simp [h.1]⟩
  have ep : (gatherP L).plus = decide (0 < cnt 2 false L) := by
    rw [hG.plus, Bool.eq_iff_iff, decide_eq_true_eq, cnt_pos]; simp
  have em : (gatherP L).minus = decide (0 < cnt 2 true L) := by
    rw [hG.minus, Bool.eq_iff_iff, decide_eq_true_eq, cnt_pos]; simp
  unfold Ga.float
  rw [e3, hG.inv, ep, em]
  by_cases c3 : 0 < cnt 3 false L
  · simp [c3]
  · by_cases cp : 0 < cnt 2 false L
    · by_cases cm : 0 < cnt 2 true L <;> simp [c3, cp, cm]
    · by_cases cm : 0 < cnt 2 true L
      · simp [c3, cp, cm]
      · simp only [c3, cp, cm, decide_false, Bool.false_and, Bool.or_self, Bool.false_or, if_false, Bool.false_eq_true, and_self, or_self, false_and]
        have hb : (gatherP L).sum.sv z = Nu.sv z ⟨decide (svs (lows L).1 L < 0), (svs (lows L).1 L).natAbs, (lows L).1⟩ := by
          rw [hG.sum, hsv]
          unfold Nu.sv
          simp only []
          generalize svs (lows L).1 L = S
          generalize ((lows L).1 - z).toNat = d
          by_cases hS : S < 0
          · rw [if_pos (by simpa using hS), Int.natCast_mul, ← Int.neg_mul, show -((S.natAbs : Nat) : Int) = S by omega, Int.natCast_pow]; rfl
          · rw [if_neg (by simpa using hS), Int.natCast_mul, show ((S.natAbs : Nat) : Int) = S by omega, Int.natCast_pow]; rfl
        rw [Nu.round_sv hG.low hz1 hb]
        unfold Nu.round
        simp only []
        by_cases hS : svs (lows L).1 L = 0
        · rw [if_pos (by omega), if_neg (by simp [hS])]
          rw [hG.seen, hG.some_, hG.other]
          have n2 : ∀ x ∈ L, x.k = 0 ∨ x.k = 1 := fun x hx => by
            rcases (hk x hx).1 with h | h | h | h
            · exact .inl h
            · exact .inr h
            · exfalso
              cases hn : x.n
              · exact cp (by rw [cnt_pos, List.any_eq_true]; exact ⟨x, hx, by simp [h, hn]⟩)
              · exact cm (by rw [cnt_pos, List.any_eq_true]; exact ⟨x, hx, by simp [h, hn]⟩)
            · exfalso
              exact c3 (by rw [cnt_pos, List.any_eq_true]; exact ⟨x, hx, by simp [h, (hk x hx).2 h]⟩)
          clear hk hG hb hsv hlow e3 ep em
          cases L with
          | nil => simp [cnt]
          | cons y l =>
            by_cases h1 : cnt 0 true (y :: l) = (y :: l).length
            · rw [if_pos ⟨by rw [h1]; simp, h1⟩]
              rw [cnt_all, List.all_eq_true] at h1
              have e1 : ((y :: l).any fun x => x.k == 1 || x.k != 2 && x.k != 3 && !x.n) = false := by
                rw [List.any_eq_false]; intro x hx; have := h1 x hx; simp at this; simp [this.1, this.2]
              have e2 : ((y :: l).any fun x => x.k == 1 || x.k != 2 && x.k != 3 && x.n) = true := by
                rw [List.any_eq_true]; have := h1 y (by simp); simp at this; exact ⟨y, by simp, by simp [this.1, this.2]⟩
              rw [e1, e2]; simp
            · rw [if_neg (fun h => h1 h.2)]
              by_cases h2 : cnt 0 false (y :: l) = (y :: l).length
              · rw [if_pos h2]
                rw [cnt_all, List.all_eq_true] at h2
                have e2 : ((y :: l).any fun x => x.k == 1 || x.k != 2 && x.k != 3 && x.n) = false := by
                  rw [List.any_eq_false]; intro x hx; have := h2 x hx; simp at this; simp [this.1, this.2]
                rw [e2]; simp
              · rw [if_neg h2]
                rw [cnt_all, List.all_eq_true] at h1 h2
                have e1 : ((y :: l).any fun x => x.k == 1 || x.k != 2 && x.k != 3 && !x.n) = true := by
                  apply Classical.byContradiction
                  intro hn
                  refine h1 fun x hx => ?_
                  rw [Bool.not_eq_true, List.any_eq_false] at hn
                  have := hn x hx
                  rcases n2 x hx with h | h <;> simp [h] at this ⊢
                  exact this
                have e2 : ((y :: l).any fun x => x.k == 1 || x.k != 2 && x.k != 3 && x.n) = true := by
                  apply Classical.byContradiction
                  intro hn
                  refine h2 fun x hx => ?_
                  rw [Bool.not_eq_true, List.any_eq_false] at hn
                  have := hn x hx
                  rcases n2 x hx with h | h <;> simp [h] at this ⊢
                  exact this
                rw [e1, e2]; simp
        · rw [if_neg (by omega), if_pos hS]
end Go.Proofs.YtokgalpflooegaaDoor
/- The reference's Total. No condition. -/
namespace Go.Proofs.YtokgalpflooegaaDoor
set_option linter.unusedVariables false
set_option linter.unusedSimpArgs false
variable {G : Gl}
set_option maxHeartbeats 4000000
set_option maxRecDepth 10000
end Go.Proofs.YtokgalpflooegaaDoor
/- What the laws of sums compare. No condition. -/
namespace Go.Proofs.YtokgalpflooegaaDoor
set_option linter.unusedVariables false
set_option linter.unusedSimpArgs false
variable {G : Gl}
set_option maxHeartbeats 4000000
set_option maxRecDepth 10000
/-- Arguments that say more. -/
theorem Does.weak {P : Program} {G : Gl} {f : FuncId} {args args' : List PV} {ret : TV} (h : Does P G f args ret) (hle : All2 PLe args' args) : Does P G f args' ret := by
  intro W ok vals hok hgl hargs
  refine h W ok vals hok hgl ?_
  clear h
  induction hle generalizing vals with
  | nil => exact hargs
  | cons h _ ih =>
    obtain ⟨v, vs, rfl, g1, g2⟩ := hargs.cons_iff
    exact .cons (h _ _ g1) (ih vs g2)
theorem Fits_none {k e : Int} {n : Bool} {m : List Nat} {fl w : Int} (hk : k = 0 ∧ n = false ∧ e = 0 ∧ m = []) (hw : w ≠ 0) (er : Int) : Does Tryd.prog Gv 33 [Fl k n e m, .c (.i .i64 0), .c (.i .i64 er), .a [.i .i64 0, .b false, .i .i64 0, .z], .c (.i .i64 fl), .c (.i .i64 w)] (.v (.c (.b (er == w)))) := by
  obtain ⟨rfl, rfl, rfl, rfl⟩ := hk
  have h := @Fits_does Gv ⟨0, false, 0, []⟩ ⟨0, false, 0, []⟩ 0 er fl w (by simp) (by simp [Ws]) (by simp) (by simp [Ws]) (by constructor <;> simp)
  rw [show fitsP ⟨0, false, 0, []⟩ 0 er ⟨0, false, 0, []⟩ fl w = (er == w) by simp [fitsP, hw]] at h
  exact h.weak (.cons (PLe.refl _) (.cons (PLe.refl _) (.cons (PLe.refl _) (.cons (PLe.flt (PLe.z false)) (.cons (PLe.refl _) (.cons (PLe.refl _) .nil))))))
theorem rcanon_idem (x : Flt) : rcanon (rcanon x) = rcanon x := by
  unfold rcanon
  by_cases h : x.k = 1
  · have : tz (x.v / 2 ^ tz x.v) = 0 := by
      by_cases h0 : x.v = 0
      · simp [h0, tz_zero]
      · exact tz_rest (by omega)
    simp [h, this]
  · simp [h]
theorem mkP_fix {n : Bool} {q : Nat} {u : Int} : rcanon (mkP n q u) = mkP n q u := by
  unfold mkP
  split
  · rfl
  · have h : rcanon ⟨1, n, u, q⟩ = ⟨1, n, u + tz q, q / 2 ^ tz q⟩ := by simp [rcanon]
    rw [← h]
    exact rcanon_idem _
theorem roundP_fix {f p r : Int} (hf : fmOk f p = true) {n : Bool} {v : Nat} {e : Int} {st : Bool} : rcanon (roundP f p r n v e st).1 = (roundP f p r n v e st).1 := by
  obtain ⟨b1, b2, b3, b4⟩ := fmOk_spec hf
  unfold roundP
  simp only []
  split
  · split
    · obtain ⟨m, hm⟩ : ∃ m, p.toNat = m + 1 := ⟨p.toNat - 1, by omega⟩
      have h2 : 2 ^ p.toNat = 2 * 2 ^ m := by rw [hm, Nat.pow_succ']
      have h3 : 0 < 2 ^ m := Nat.pow_pos (by decide)
      have h4 : tz (2 ^ p.toNat - 1) = 0 := tz_odd1 (by omega)
      simp [rcanon, h4]
    · rfl
  · exact mkP_fix
theorem float_fix {f p r : Int} (hf : fmOk f p = true) {g : Ga} : rcanon (g.float f p r).1 = (g.float f p r).1 := by
  unfold Ga.float
  split
  · rfl
  · split
    · rfl
    · split
      · rfl
      · unfold Nu.round
        split
        · rfl
        · exact roundP_fix hf
theorem totalP_fix {f p r : Int} {l : List Fla} : rcanon (totalP f p r l).1 = (totalP f p r l).1 := by
  unfold totalP
  split
  · rename_i h
    exact float_fix (argsE_zero h).2.2.2.2.1
  · rfl
abbrev Flt.fla (x : Flt) : Fla := ⟨x.k, x.n, x.e, nat x.v⟩
theorem Flt.fla_flt (x : Flt) : x.fla.flt = x := by simp [Fla.flt, val_nat]
/-- A result against the reference's. -/
theorem Fits_same {x : Flt} {k : Int} (hx : Fine x) (h : rcanon x = x) : Does Tryd.prog G 33 [x.pv, .c (.i .i64 k), .c (.i .i64 0), x.pv, .c (.i .i64 k), .c (.i .i64 0)] (.v (.c (.b true))) := by
  have hl : (nat x.v).length ≤ 1073741824 := by have := nat_len_bl x.v; have := hx.v; omega
  have := @Fits_does G x.fla x.fla k 0 k 0 hl (nat_ws _) hl (nat_ws _) (good_md hx.can)
  rw [show fitsP x.fla k 0 x.fla k 0 = true by rw [fitsP, if_pos rfl, Flt.fla_flt, h]; simp [isP]] at this
  exact this
theorem held_rcanon {f p : Int} {x : Flt} (h : (holdsP f p x).2 = true) : rcanon x = (holdsP f p x).1 ∧ (canon x).2 = true := by
  have hg : (canon x).2 = true := by
    have := @holds_good f p x
    rw [h, Bool.and_eq_true] at this
    exact this.1
  refine ⟨?_, hg⟩
  rw [rcanon_good hg]
  unfold holdsP
  split <;> rfl
/-- Floats of the reference: right ones. -/
structure Rt (x : Fla) : Prop where
  can : (canon x.flt).2 = true
  ws : Ws x.m
  len : x.m.length ≤ 4096
theorem Rt.md {x : Fla} (h : Rt x) : Md x.e := good_md h.can
theorem canon_one {x : Flt} (h : (canon x).2 = true) (hk : x.k = 1) : -1048576 ≤ x.e ∧ x.e + tz x.v ≤ 1048576 ∧ x.v ≠ 0 := by
  unfold canon at h
  rw [if_neg (by omega), if_neg (by omega), if_pos hk] at h
  split at h
  · cases h
  · simp at h; omega
theorem canon_kind {x : Flt} (h : (canon x).2 = true) : (x.k = 0 ∨ x.k = 1 ∨ x.k = 2 ∨ x.k = 3) ∧ (x.k = 3 → x.n = false) := by
  unfold canon at h
  split at h
  · omega
  · split at h
    · simp at h; exact ⟨by omega, fun _ => h.1.1⟩
    · split at h
      · omega
      · cases h
theorem rcanon_k (x : Flt) : (rcanon x).k = x.k := by unfold rcanon; split <;> simp_all
theorem rcanon_n (x : Flt) : (rcanon x).n = x.n := by unfold rcanon; split <;> rfl
theorem Rt.tame {l : List Fla} (hl : l.length < 1099511627776) (h : ∀ x ∈ l, Rt x) : Tame (l.map fun x => rcanon x.flt) ∧ Kinds (l.map fun x => rcanon x.flt) := by
  refine ⟨⟨by simpa using hl, fun y hy hk => ?_⟩, fun y hy => ?_⟩
  · obtain ⟨x, hx, rfl⟩ := List.mem_map.1 hy
    have hr := h x hx
    rw [rcanon_k] at hk
    have h1 := canon_one hr.can hk
    have hb := bl_le_len hr.ws (Nat.div_le_self (val x.m) (2 ^ tz (val x.m)))
    have hlen := hr.len
    have e1 : rcanon x.flt = ⟨1, x.n, x.e + tz (val x.m), val x.m / 2 ^ tz (val x.m)⟩ := by rw [rcanon, if_pos hk]; rfl
    rw [e1]
    have h1 : -1048576 ≤ x.e ∧ x.e + tz (val x.m) ≤ 1048576 ∧ val x.m ≠ 0 := h1
    exact ⟨by simp only []; omega, by simp only []; omega, by simp only []; omega⟩
  · obtain ⟨x, hx, rfl⟩ := List.mem_map.1 hy
    have hr := canon_kind (h x hx).can
    rw [rcanon_k, rcanon_n]
    exact hr
theorem held_map {f p : Int} {l : List Fla} (h : allHold f p l = true) : (l.map fun x => rcanon x.flt) = heldL f p l := by
  unfold heldL
  apply List.map_congr_left
  intro x hx
  exact (held_rcanon (by simpa using List.all_eq_true.1 h x hx)).1
theorem held_rt {f p : Int} {l : List Fla} (h : allHold f p l = true) (ho : ∀ x ∈ l, x.Ok) (hm : ∀ x ∈ l, x.m.length ≤ 4096) : ∀ x ∈ l, Rt x := fun x hx =>
  ⟨(held_rcanon (by simpa using List.all_eq_true.1 h x hx)).2, (ho x hx).ws, hm x hx⟩
end Go.Proofs.YtokgalpflooegaaDoor
/- The law SumTotals. No condition. -/
namespace Go.Proofs.YtokgalpflooegaaDoor
set_option linter.unusedVariables false
set_option linter.unusedSimpArgs false
set_option maxHeartbeats 4000000
set_option maxRecDepth 10000
end Go.Proofs.YtokgalpflooegaaDoor
/- The law SumAdds. No condition. -/
namespace Go.Proofs.YtokgalpflooegaaDoor
set_option linter.unusedVariables false
set_option linter.unusedSimpArgs false
set_option maxHeartbeats 4000000
set_option maxRecDepth 10000
theorem rcanon_neg (x : Flt) : rcanon x.neg = (rcanon x).neg := by
  unfold rcanon Flt.neg
  by_cases h : x.k = 1 <;> simp [h]
theorem canon_rneg {x : Flt} (h : (canon x).2 = true) : (canon (rcanon x).neg).2 = true := by
  have hk := (canon_kind h).1
  by_cases h1 : x.k = 1
  · have hb := canon_one h h1
    have e1 : (rcanon x).neg = ⟨1, !x.n, x.e + tz x.v, x.v / 2 ^ tz x.v⟩ := by simp [rcanon, Flt.neg, h1]
    have hd : x.v / 2 ^ tz x.v ≠ 0 := by
      obtain ⟨m, hm⟩ := tz_form (show 0 < x.v by omega)
      have : x.v / 2 ^ tz x.v = 2 * m + 1 := by
        conv => lhs; arg 1; rw [hm]
        exact Nat.mul_div_cancel_left _ (Nat.pow_pos (by decide))
      omega
    rw [e1]
    unfold canon
    simp only []
    rw [if_neg (by omega), if_neg (by omega), if_pos trivial, if_neg (by omega)]
    simp [tz_rest (show 0 < x.v by omega)]; omega
  · have e1 : (rcanon x).neg = ⟨x.k, x.k != 3 && !x.n, 0, 0⟩ := by simp [rcanon, Flt.neg, h1]
    rw [e1]
    unfold canon
    simp only []
    rcases hk with hk | hk | hk | hk
    · rw [if_pos (by omega)]; simp
    · exact absurd hk h1
    · rw [if_pos (by omega)]; simp
    · rw [if_neg (by omega), if_pos hk]; simp [hk]
theorem subP_fine {f p r : Int} {x y : Fla} : Fine (subP f p r x y).1 := by
  unfold subP
  split
  · rename_i h
    exact float_fine (argsE_zero h).2.2.2.2.1
  · exact fine_zero
theorem subP_fix {f p r : Int} {x y : Fla} : rcanon (subP f p r x y).1 = (subP f p r x y).1 := by
  unfold subP
  split
  · rename_i h
    exact float_fix (argsE_zero h).2.2.2.2.1
  · rfl
end Go.Proofs.YtokgalpflooegaaDoor
/- The package variables of the program, as they are laid, and what a law's arguments are. No condition. -/
namespace Go.Proofs.YtokgalpflooegaaDoor
set_option linter.unusedVariables false
set_option linter.unusedSimpArgs false
open Go.ChangeShapes Go.WideShapes Go.ChangeAt Go.RowKit
theorem own : ownKnob Tryd.prog.godebug = Option.none := by kernel_rfl
theorem laidOut : laidOutB Tryd.prog = true := by kernel_rfl
theorem g0_name : Tryd.prog.globalNamed "math/bits.deBruijn64tab" = some 1 := by kernel_rfl
theorem g1_name : Tryd.prog.globalNamed "reckoner/fin.more" = some 0 := by kernel_rfl
/-- What is listed. -/
abbrev laidL : List (String × DataW Unit) := [("math/bits.deBruijn64tab", Rows.laid_math_bits_deBruijn64tab), ("reckoner/fin.more", Rows.laid_reckoner_fin_more)]
section
variable {H : Type} {enc : TypeId × Value → H} {P : Program} {W : World} {base : Nat} {sp : Nat → Bool} {held : Bool}
theorem array_at {t e : TypeId} {n fuel : Nat} {cs : List Value} {ds : List (DataW H)} {p : List MemPlace} (ht : P.underlying t = some (.array n e)) (hc : P.cellsOf e = 1) (h : DataW.trod enc P W base sp held fuel t cs = some (.agg ds, p)) {i : Nat} {d : DataW H} (hd : ds[i]? = some d) : ∃ v m q, cs[i]? = some v ∧ DataW.trod enc P W base sp held m e [v] = some (d, q) := by
  obtain ⟨xs, m, rfl, hx, hl, hn, hel⟩ := DataW.trod_array ht h
  simp only [Prod.mk.injEq, DataW.agg.injEq] at hx
  obtain ⟨rfl, _⟩ := hx
  rw [List.getElem?_map] at hd
  cases hxi : xs[i]? with
  | none => simp [hxi] at hd
  | some y =>
    rw [hxi] at hd
    simp only [Option.map_some, Option.some.injEq] at hd
    have hi : i < n := by rw [← hn]; exact (List.getElem?_eq_some_iff.1 hxi).1
    have h1 := hel i hi
    rw [hc, Nat.mul_one, hxi] at h1
    have hil : i < cs.length := by
      apply Classical.byContradiction
      intro hge
      rw [List.drop_of_length_le (by omega)] at h1
      cases m with
      | zero => simp [DataW.trod] at h1
      | succ m =>
        have : P.cellsOf e = 1 := hc
        cases hu : P.underlying e with
        | none => simp [DataW.trod, hu] at h1
        | some k => cases k <;> simp [DataW.trod, hu] at h1 <;> (try omega)
    rw [List.drop_eq_getElem_cons hil] at h1
    simp only [List.take_succ_cons, List.take_zero] at h1
    exact ⟨cs[i], m, y.2, List.getElem?_eq_getElem hil, by rw [h1, ← hd]⟩
theorem laidMetH.plain {l : List (String × DataW Unit)} (h : laidMetH P l W) (hne : (l.filter fun x => x.2.handleName?.isSome).isEmpty = false) : laidMet P (l.filter fun x => x.2.handleName?.isNone) W := by
  unfold laidMetH at h
  generalize (l.filter fun x => x.2.handleName?.isSome) = fl at h hne
  cases fl with
  | nil => cases hne
  | cons a r => exact h.1
end
/-- The door's own heap meets the condition. -/
abbrev doorN : Nat := 19
abbrev doorK : Nat := 8
theorem door_met (os : Os) (args : Array Value) : laidMetH Tryd.prog laidL ((World.doorLaid Tryd.prog doorN os).forCall (fun _ _ => 0) ⟨#[], args, []⟩).memory :=
  laidMetH_of_parts3 (fuel := 8) (laidMet_of_run' 8 (by kernel_rfl) (by kernel_rfl)) (by kernel_rfl) (by kernel_rfl)
theorem of_laid {W : World} (h : laidMetH Tryd.prog laidL W) : GlOk Gv W := by
  have h0 : laidMet Tryd.prog [("math/bits.deBruijn64tab", Rows.laid_math_bits_deBruijn64tab)] W := laidMetH.plain h (by kernel_rfl)
  obtain ⟨ps, ⟨g0, t0, cs0, f0, p0, q0, hg0, ht0, hv0, hd0, _⟩, _, _⟩ := h0
  obtain ⟨g1, t1, cs1, f1, p1, hg1, ht1, hv1, hd1⟩ := h.funcs (d := .agg [.iface "func" (.lit (.string [114, 101, 99, 107, 111, 110, 101, 114, 47, 102, 105, 110, 46, 109, 111, 114, 101, 36, 49])), .iface "func" (.lit (.string [114, 101, 99, 107, 111, 110, 101, 114, 47, 102, 105, 110, 46, 109, 111, 114, 101, 36, 50])), .iface "func" (.lit (.string [114, 101, 99, 107, 111, 110, 101, 114, 47, 102, 105, 110, 46, 109, 111, 114, 101, 36, 51])), .iface "func" (.lit (.string [114, 101, 99, 107, 111, 110, 101, 114, 47, 102, 105, 110, 46, 109, 111, 114, 101, 36, 52])), .iface "func" (.lit (.string [114, 101, 99, 107, 111, 110, 101, 114, 47, 102, 105, 110, 46, 109, 111, 114, 101, 36, 53]))]) (n := "reckoner/fin.more") (List.mem_cons_of_mem _ (List.mem_singleton.2 rfl))
  obtain rfl := Option.some.inj (g0_name.symm.trans hg0)
  obtain rfl := Option.some.inj (g1_name.symm.trans hg1)
  have e0 : (Rows.laid_math_bits_deBruijn64tab : DataW Unit) = .agg (Lib.deBruijn64tab.map fun k => .lit (.int .u8 (k : Nat))) := by kernel_rfl
  rw [e0] at hd0
  obtain rfl := Option.some.inj ((show (Tryd.prog.globals[1]?).map (·.type) = some 163 by kernel_rfl).symm.trans ht0)
  obtain rfl := Option.some.inj ((show (Tryd.prog.globals[0]?).map (·.type) = some 142 by kernel_rfl).symm.trans ht1)
  intro b off x hx
  match b, hx with
  | 1, hx =>
    simp only [Gv, List.getElem?_map] at hx
    cases hk : Lib.deBruijn64tab[off]? with
    | none => simp [hk] at hx
    | some k =>
      simp only [hk, Option.map_some, Option.some.injEq] at hx; subst hx
      obtain ⟨v, m, q, h1, h2⟩ := array_at Tryd.underlying163 (by kernel_rfl) hd0 (i := off) (d := .lit (.int .u8 (k : Nat))) (by simp [hk])
      obtain ⟨z, h3, h4, _⟩ := DataW.trod_int Tryd.underlying5 h2
      simp only [List.cons.injEq, and_true, Prod.mk.injEq, DataW.lit.injEq, Lit.int.injEq, true_and] at h3 h4
      subst h3
      refine ⟨rfl, .int .u8 z, ?_, fun E => ?_⟩
      · rw [World.var?_cell hg0 hv0 off]; simpa using h1
      · show Value.int .u8 z = .int .u8 (k : Nat)
        rw [h4.1]
  | 0, hx =>
    have hd1 : DataW.trod (funcToken Tryd.prog) Tryd.prog W 0 (fun _ => true) true f1 142 cs1.toList = some (.agg [.held [114, 101, 99, 107, 111, 110, 101, 114, 47, 102, 105, 110, 46, 109, 111, 114, 101, 36, 49], .held [114, 101, 99, 107, 111, 110, 101, 114, 47, 102, 105, 110, 46, 109, 111, 114, 101, 36, 50], .held [114, 101, 99, 107, 111, 110, 101, 114, 47, 102, 105, 110, 46, 109, 111, 114, 101, 36, 51], .held [114, 101, 99, 107, 111, 110, 101, 114, 47, 102, 105, 110, 46, 109, 111, 114, 101, 36, 52], .held [114, 101, 99, 107, 111, 110, 101, 114, 47, 102, 105, 110, 46, 109, 111, 114, 101, 36, 53]], p1) := hd1
    have hF : ∀ {i : Nat} {by_ : UInt8} {r : List UInt8} {f0 : FuncId}, (([DataW.held (H := List UInt8) [114, 101, 99, 107, 111, 110, 101, 114, 47, 102, 105, 110, 46, 109, 111, 114, 101, 36, 49], .held [114, 101, 99, 107, 111, 110, 101, 114, 47, 102, 105, 110, 46, 109, 111, 114, 101, 36, 50], .held [114, 101, 99, 107, 111, 110, 101, 114, 47, 102, 105, 110, 46, 109, 111, 114, 101, 36, 51], .held [114, 101, 99, 107, 111, 110, 101, 114, 47, 102, 105, 110, 46, 109, 111, 114, 101, 36, 52], .held [114, 101, 99, 107, 111, 110, 101, 114, 47, 102, 105, 110, 46, 109, 111, 114, 101, 36, 53]]))[i]? = some (.held (by_ :: r)) → ((List.range Tryd.prog.funcs.size).filter fun f => (Tryd.prog.funcs[f]?).any (·.name.toUTF8.data.toList == by_ :: r)) = [f0] → (Ce.f f0).pure = true ∧ ∃ v, W.cell? ⟨0, i, Option.none⟩ = some v ∧ ∀ E, RC E (.f f0) v := fun {i by_ r f0} hi hone => by
      obtain ⟨v, m, q, h1, h2⟩ := array_at Tryd.underlying142 (by kernel_rfl) hd1 hi
      obtain rfl := func_of_trod (f0 := f0) Tryd.underlying141 hone h2
      refine ⟨rfl, .func (.func f0) #[] #[], ?_, fun E => rfl⟩
      rw [World.var?_cell hg1 hv1 i]; simpa using h1
    rcases off with _ | _ | _ | _ | _ | off
    · simp only [Gv] at hx
      obtain rfl : Ce.f 150 = x := Option.some.inj hx
      exact hF (i := 0) rfl (by kernel_rfl)
    · simp only [Gv] at hx
      obtain rfl : Ce.f 151 = x := Option.some.inj hx
      exact hF (i := 1) rfl (by kernel_rfl)
    · simp only [Gv] at hx
      obtain rfl : Ce.f 152 = x := Option.some.inj hx
      exact hF (i := 2) rfl (by kernel_rfl)
    · simp only [Gv] at hx
      obtain rfl : Ce.f 153 = x := Option.some.inj hx
      exact hF (i := 3) rfl (by kernel_rfl)
    · simp only [Gv] at hx
      obtain rfl : Ce.f 154 = x := Option.some.inj hx
      exact hF (i := 4) rfl (by kernel_rfl)
    · simp [Gv] at hx
  | b + 2, hx => simp [Gv] at hx
set_option maxRecDepth 100000
/-- A format among the arguments. -/
theorem arg_fm {H : Type} {enc : TypeId × Value → H} {W : World} {b0 : Nat} {sp : Nat → Bool} {held : Bool} {v : Value} {d : DataW H} {ps : List MemPlace} (hval : Value.okWide Tryd.prog W .any b0 23 v) (h : DataW.Trod enc Tryd.prog W 0 sp held 23 v d ps) : ∃ f p, RP (enA W fun b => b < W.heap.size) (Fm f p) v := by
  obtain ⟨ces, h1, h2⟩ := open_struct (ok := fun b => b < W.heap.size) (f := 2) (cts := [.i .i64, .i .i64]) (fun _ h => h) Tryd.underlying23 (by kernel_rfl) hval h
  cases h2 with | cons g h2 => cases h2 with | cons g' h2 => cases h2 with | nil =>
  obtain ⟨e, rfl, _⟩ := g
  obtain ⟨p, rfl, _⟩ := g'
  exact ⟨e, p, h1⟩
theorem cells_fl {ces : List Ce} (h2 : All2 CtIs [.i .i64, .b, .i .i64, .w] ces) : ∃ x : Fla, x.cs = ces ∧ Ws x.m ∧ I64 x.e := by
  cases h2 with | cons g1 h2 => cases h2 with | cons g2 h2 => cases h2 with | cons g3 h2 => cases h2 with | cons g4 h2 => cases h2 with | nil =>
  obtain ⟨k, rfl, _⟩ := g1
  obtain ⟨n, rfl⟩ := g2
  obtain ⟨e, rfl, he⟩ := g3
  obtain ⟨m, rfl, hm⟩ := g4
  exact ⟨⟨k, n, e, m⟩, rfl, hm, wf_i64 he⟩
/-- A float among the arguments. -/
theorem arg_fl {H : Type} {enc : TypeId × Value → H} {W : World} {b0 : Nat} {sp : Nat → Bool} {held : Bool} {v : Value} {d : DataW H} {ps : List MemPlace} (hval : Value.okWide Tryd.prog W .any b0 34 v) (h : DataW.Trod enc Tryd.prog W 0 sp held 34 v d ps) : ∃ x : Fla, Ws x.m ∧ I64 x.e ∧ RP (enA W fun b => b < W.heap.size) (Fl x.k x.n x.e x.m) v := by
  obtain ⟨ces, h1, h2⟩ := open_struct (ok := fun b => b < W.heap.size) (f := 2) (cts := [.i .i64, .b, .i .i64, .w]) (fun _ h => h) Tryd.underlying34 (by kernel_rfl) hval h
  obtain ⟨x, rfl, hx⟩ := cells_fl h2
  exact ⟨x, hx.1, hx.2, h1⟩
/-- Floats among the arguments. -/
theorem arg_fls {H : Type} {enc : TypeId × Value → H} {W : World} {b0 : Nat} {sp : Nat → Bool} {held : Bool} {v : Value} {d : DataW H} {ps : List MemPlace} (hval : Value.okWide Tryd.prog W .any b0 75 v) (h : DataW.Trod enc Tryd.prog W 0 sp held 75 v d ps) : ∃ l : List Fla, (∀ x ∈ l, Ws x.m ∧ I64 x.e) ∧ RP (enA W fun b => b < W.heap.size) (Rows l) v := by
  obtain ⟨rows, h1, h2⟩ := open_structs (ok := fun b => b < W.heap.size) (f := 2) (cts := [.i .i64, .b, .i .i64, .w]) (fun _ h => h) Tryd.underlying75 (by kernel_rfl) (by kernel_rfl) (by decide) hval h
  have : ∃ l : List Fla, l.map Fla.cs = rows ∧ ∀ x ∈ l, Ws x.m ∧ I64 x.e := by
    clear h1
    induction rows with
    | nil => exact ⟨[], rfl, by simp⟩
    | cons r rows ih =>
      obtain ⟨l, e, hl⟩ := ih fun r hr => h2 r (List.mem_cons_of_mem _ hr)
      have hr := h2 r (by simp)
      obtain ⟨y, rfl, hy⟩ := cells_fl hr
      exact ⟨y :: l, by simp [e], fun x hx => by
          rcases List.mem_cons.1 hx with rfl | hx
          · exact hy
          · exact hl x hx⟩
  obtain ⟨l, rfl, hl⟩ := this
  exact ⟨l, hl, h1⟩
/-- What a law that returns true leaves. -/
theorem law_calls {f : FuncId} {fn : Func} {c : Code} {args : List PV} {W : World} {vals : List Value} (h : Does Tryd.prog Gv f args (.v (.c (.b true)))) (hf : Tryd.prog.funcs[f]? = some fn) (hname : (fn.name == "runtime.NumGoroutine") = false) (hb : fn.body = some c) (hg : GlOk Gv W) (ha : All2 (RP (enA W fun b => b < W.heap.size)) args vals) :
    Calls Tryd.prog f vals.toArray W (fun e W' => e = .returned (.bool true) ∧ Below W.heap.size W W') :=
  (h.toCalls hf hname hb (fun _ h => h) hg ha).mono fun e W' ⟨v, he, hb, hr⟩ => by
    have : v = .bool true := hr
    subst this
    exact ⟨he, hb⟩
end Go.Proofs.YtokgalpflooegaaDoor
/- Rounding to the nearest: how near, and when exactly. No condition. -/
namespace Go.Proofs.YtokgalpflooegaaDoor
set_option linter.unusedVariables false
set_option linter.unusedSimpArgs false
set_option maxHeartbeats 4000000
set_option maxRecDepth 10000
theorem near_cut (v k : Nat) (n : Bool) {q : Nat} (hq : upP 0 n (cutP v ((k : Int) + 1) false).1 (cutP v ((k : Int) + 1) false).2 = q) : 2 * v ≤ 2 * (q * 2 ^ (k + 1)) + 2 ^ (k + 1) ∧ 2 * (q * 2 ^ (k + 1)) ≤ 2 * v + 2 ^ (k + 1) := by
  have e1 : ((k : Int) + 1).toNat = k + 1 := by omega
  have e2 : ((k : Int) + 1 - 1).toNat = k := by omega
  rw [cutP, if_neg (by omega), e1, e2] at hq
  simp only [Bool.false_or] at hq
  have h1 : v / 2 ^ k = 2 * (v / 2 ^ (k + 1)) + v / 2 ^ k % 2 := by
    have := Nat.div_add_mod (v / 2 ^ k) 2
    rw [Nat.div_div_eq_div_mul, ← Nat.pow_succ] at this
    exact this.symm
  have h2 := Nat.div_add_mod v (2 ^ k)
  have h3 := Nat.mod_lt v (Nat.pow_pos (n := k) (show 0 < 2 by decide))
  have hP : 2 ^ (k + 1) = 2 * 2 ^ k := Nat.pow_succ'
  generalize v / 2 ^ (k + 1) = c at *
  have h4 : v / 2 ^ k % 2 = 0 ∨ v / 2 ^ k % 2 = 1 := by omega
  generalize v / 2 ^ k % 2 = b at *
  generalize v / 2 ^ k = d at *
  generalize v % 2 ^ k = l at *
  rw [hP]
  generalize 2 ^ k = H at *
  have key : v = 2 * (c * H) + b * H + l := by
    rw [← h2, h1, Nat.mul_add, Nat.mul_comm H b, ← Nat.mul_assoc, Nat.mul_comm H 2, Nat.mul_assoc, Nat.mul_comm H c]
  have hup : ∀ x, upP 0 n c x = c ∨ upP 0 n c x = c + 1 := fun x => by unfold upP; split <;> simp
  have hc : q = c ∨ q = c + 1 := by rw [← hq]; exact hup _
  have m0 : c * (2 * H) = 2 * (c * H) := by rw [← Nat.mul_assoc, Nat.mul_comm c 2, Nat.mul_assoc]
  have m1 : (c + 1) * (2 * H) = 2 * (c * H) + 2 * H := by rw [Nat.add_mul, m0, Nat.one_mul]
  rcases h4 with rfl | rfl
  · have : q = c := by rw [← hq]; by_cases hl : l = 0 <;> simp [upP, moreP, hl]
    subst this
    rw [m0]
    generalize q * H = X at *
    omega
  · by_cases hl : l = 0
    · rcases hc with rfl | rfl
      · rw [m0]
        generalize q * H = X at *
        omega
      · rw [m1]
        generalize c * H = X at *
        omega
    · have : q = c + 1 := by rw [← hq]; simp [upP, moreP, hl]
      subst this
      rw [m1]
      generalize c * H = X at *
      omega
theorem rcanon_scale (n : Bool) {v : Nat} (hv : 0 < v) (e : Int) (k : Nat) : rcanon ⟨1, n, e - k, v * 2 ^ k⟩ = rcanon ⟨1, n, e, v⟩ := by
  simp only [rcanon, if_true]
  rw [Nat.mul_comm v, tz_mul k hv, Nat.pow_add, Nat.mul_div_mul_left _ _ (Nat.pow_pos (by decide))]
  rw [show e - (k : Int) + ((k + tz v : Nat) : Int) = e + tz v by omega]
theorem mkP_rcanon {n : Bool} {q : Nat} {u : Int} (h : q ≠ 0) : mkP n q u = rcanon ⟨1, n, u, q⟩ := by simp [mkP, rcanon, h]
theorem upP_none (r : Int) (n : Bool) (q : Nat) : upP r n q 0 = q := by simp [upP, moreP]
/-- A float of the format is not changed. -/
theorem roundP_exact {f p r : Int} (hf : fmOk f p = true) {n : Bool} {w : Nat} {k : Int} (hw : 0 < w) (hk : 1 - gOfE f - (p - 1) ≤ k) (hb : (bl w : Int) ≤ p) (hg : k + bl w ≤ gOfE f + 1) : roundP f p r n w k false = (rcanon ⟨1, n, k, w⟩, 0) := by
  obtain ⟨b1, b2, b3, b4⟩ := fmOk_spec hf
  have hp := bl_pos hw
  have hu : stepP f p (k + bl w - 1) ≤ k := by unfold stepP; split <;> omega
  unfold roundP
  simp only []
  generalize stepP f p (k + bl w - 1) = u at *
  obtain ⟨j, hj⟩ : ∃ j : Nat, k - u = j := ⟨(k - u).toNat, by omega⟩
  have hc : cutP w (u - k) false = (w * 2 ^ j, 0) := by
    rw [cutP, if_pos (by omega), show (-(u - k)).toNat = j by omega]; rfl
  rw [hc]
  simp only [upP_none]
  have hbl := bl_mul_pow w j hw
  have hpos : 0 < w * 2 ^ j := Nat.mul_pos hw (Nat.pow_pos (by decide))
  rw [if_neg (by omega), if_pos trivial, mkP_rcanon (by omega), show u = k - j by omega, rcanon_scale n hw]
/-- How near a rounded number is. -/
theorem roundP_near {f p : Int} (hf : fmOk f p = true) {n : Bool} {V : Nat} {z : Int} (hz : z ≤ 1 - gOfE f - (p - 1)) (hV : 0 < V) (hk : (roundP f p 0 n V z false).1.k ≠ 2) : ∃ q j : Nat, 1 - gOfE f - (p - 1) ≤ z + j ∧ (z + j = 1 - gOfE f - (p - 1) ∨ 2 ^ (p.toNat - 1) * 2 ^ j ≤ V) ∧ 2 * V ≤ 2 * (q * 2 ^ j) + 2 ^ j ∧ 2 * (q * 2 ^ j) ≤ 2 * V + 2 ^ j ∧ (roundP f p 0 n V z false).1 = mkP n q (z + j) := by
  obtain ⟨b1, b2, b3, b4⟩ := fmOk_spec hf
  have hp := bl_pos hV
  have hlow : 2 ^ (bl V - 1) ≤ V := (bl_le _ _).1 (by omega)
  have hu : 1 - gOfE f - (p - 1) ≤ stepP f p (z + bl V - 1) ∧ (stepP f p (z + bl V - 1) = 1 - gOfE f - (p - 1) ∨ stepP f p (z + bl V - 1) = z + bl V - 1 - p + 1) := by unfold stepP; split <;> omega
  unfold roundP at hk ⊢
  simp only [] at hk ⊢
  generalize stepP f p (z + bl V - 1) = u at *
  obtain ⟨j, hj⟩ : ∃ j : Nat, u - z = j := ⟨(u - z).toNat, by omega⟩
  have hg : grP 0 n = false := rfl
  have hno : ¬ gOfE f < u + bl (upP 0 n (cutP V (u - z) false).1 (cutP V (u - z) false).2) - 1 := by
    intro h
    rw [if_pos h, hg] at hk
    exact hk rfl
  rw [if_neg hno]
  refine ⟨upP 0 n (cutP V (u - z) false).1 (cutP V (u - z) false).2, j, by omega, ?_, ?_, ?_, by rw [show z + (j : Int) = u by omega]⟩
  · rcases hu.2 with h | h
    · exact .inl (by omega)
    · right
      rw [← Nat.pow_add, show p.toNat - 1 + j = bl V - 1 by omega]
      exact hlow
  · rw [hj]
    cases j with
    | zero =>
      rw [show cutP V ((0 : Nat) : Int) false = (V, 0) by simp [cutP]]
      simp only [upP_none]; omega
    | succ k => exact (near_cut V k n rfl).1
  · rw [hj]
    cases j with
    | zero =>
      rw [show cutP V ((0 : Nat) : Int) false = (V, 0) by simp [cutP]]
      simp only [upP_none]; omega
    | succ k => exact (near_cut V k n rfl).2
theorem near_mult {V Q c : Int} {P : Nat} (h1 : 2 * V ≤ 2 * (Q * P) + P) (h2 : 2 * (Q * P) ≤ 2 * V + P) : (V - Q * P).natAbs ≤ (V - c * P).natAbs := by
  rcases Int.lt_trichotomy Q c with h | h | h
  · have : (Q + 1) * P ≤ c * P := Int.mul_le_mul_of_nonneg_right (by omega) (by omega)
    rw [Int.add_mul, Int.one_mul] at this
    generalize Q * (P : Int) = X at *
    generalize c * (P : Int) = Y at *
    omega
  · subst h; exact Nat.le_refl _
  · have : (c + 1) * P ≤ Q * P := Int.mul_le_mul_of_nonneg_right (by omega) (by omega)
    rw [Int.add_mul, Int.one_mul] at this
    generalize Q * (P : Int) = X at *
    generalize c * (P : Int) = Y at *
    omega
/-- A number over a low exponent, with few enough digits for the format. -/
structure OfF (f p z : Int) (A : Int) (w : Nat) (k : Int) : Prop where
  low : 1 - gOfE f - (p - 1) ≤ k
  few : (bl w : Int) ≤ p
  top : k + bl w ≤ gOfE f + 1
  abs : A.natAbs = w * 2 ^ (k - z).toNat
/-- Nothing of the format is nearer. -/
theorem near_le {f p z : Int} {V q j : Nat} {W : Int} {w : Nat} {k : Int} (hp : 2 ≤ p) (hz : z ≤ 1 - gOfE f - (p - 1)) (hj : z + j = 1 - gOfE f - (p - 1) ∨ 2 ^ (p.toNat - 1) * 2 ^ j ≤ V) (h1 : 2 * V ≤ 2 * (q * 2 ^ j) + 2 ^ j) (h2 : 2 * (q * 2 ^ j) ≤ 2 * V + 2 ^ j) (hW : OfF f p z W w k) : ((V : Int) - (q * 2 ^ j : Nat)).natAbs ≤ ((V : Int) - W).natAbs := by
  obtain ⟨a1, a2, a3, a4⟩ := hW
  have key : ∀ c : Int, ((V : Int) - (q * 2 ^ j : Nat)).natAbs ≤ ((V : Int) - c * (2 ^ j : Nat)).natAbs := fun c => by
    have := @near_mult V q c (2 ^ j) (by rw [← Int.natCast_mul]; omega) (by rw [← Int.natCast_mul]; omega)
    rwa [← Int.natCast_mul] at this
  by_cases hk : z + j ≤ k
  · have e1 : w * 2 ^ (k - z).toNat = w * 2 ^ (k - z - j).toNat * 2 ^ j := by
      rw [Nat.mul_assoc, ← Nat.pow_add]; congr 2; omega
    rw [e1] at a4
    rcases Int.natAbs_eq W with h | h
    · have := key (w * 2 ^ (k - z - j).toNat : Nat)
      rw [← Int.natCast_mul, ← a4, ← h] at this
      exact this
    · have := key (-(w * 2 ^ (k - z - j).toNat : Nat))
      rw [Int.neg_mul, ← Int.natCast_mul, ← a4, ← h] at this
      exact this
  · have h3 : 2 ^ (p.toNat - 1) * 2 ^ j ≤ V := by
      rcases hj with h | h
      · omega
      · exact h
    have h4 : w * 2 ^ (k - z).toNat ≤ 2 ^ (p.toNat - 1) * 2 ^ j := by
      have hb : w < 2 ^ p.toNat := (bl_lt _ _).1 (by omega)
      refine Nat.le_trans (Nat.mul_le_mul_right _ (Nat.le_of_lt hb)) ?_
      rw [← Nat.pow_add, ← Nat.pow_add]
      exact Nat.pow_le_pow_right (by decide) (by omega)
    have h5 := key (2 ^ (p.toNat - 1) : Nat)
    rw [← Int.natCast_mul] at h5
    generalize 2 ^ (p.toNat - 1) * 2 ^ j = M at *
    generalize w * 2 ^ (k - z).toNat = y at *
    generalize q * 2 ^ j = x at *
    omega
end Go.Proofs.YtokgalpflooegaaDoor
/- Division by 1; a ratio by 1, rounded. No condition. -/
namespace Go.Proofs.YtokgalpflooegaaDoor
set_option linter.unusedVariables false
set_option linter.unusedSimpArgs false
variable {G : Gl}
set_option maxHeartbeats 4000000
set_option maxRecDepth 10000
theorem Div64_low {lo w : Nat} (hl : lo < 18446744073709551616) (hw : 0 < w) : Does Tryd.prog G 124 [.c (.n 0), .c (.n lo), .c (.n w)] (.t [.c (.n (lo / w)), .c (.n (lo % w))]) := by
  have hw0 : ¬ w = 0 := by omega
  have hw1 : ¬ w ≤ 0 := by omega
  refine Does.of (nt := 135) Tryd.func124 rfl rfl rfl (by simp) ?_
  simp only [argTm, PV.ext, Ce.ext]
  refine Do.seqk fun _ k1_ => ?_
  refine Do.region [0,1,2] true ?_
  simp [go_sem, hw0, hw1]
  apply k1_; clear k1_
  refine Do.seqk fun _ k2_ => ?_
  refine Do.seqk fun _ k3_ => ?_
  refine Do.region [0,1,2,20] true ?_
  simp [go_sem, hw0, hw1]
  apply k3_; clear k3_
  refine Do.cond [0,1,2] rfl (fun h1 => ?_) (fun h1 => ?_) <;> simp [go_sem, hw0, hw1] at h1 ⊢
  refine Do.skip ?_
  simp [go_sem]
  apply k2_; clear k2_
  refine Do.seqk fun _ k4_ => ?_
  refine Do.seqk fun _ k5_ => ?_
  refine Do.region [0,1,2,24] true ?_
  simp [go_sem, hw0, hw1]
  apply k5_; clear k5_
  refine Do.cond [0,1,2] rfl (fun h2 => ?_) (fun h2 => ?_) <;> simp [go_sem, hw0, hw1] at h2 ⊢
  refine Do.skip ?_
  simp [go_sem]
  apply k4_; clear k4_
  refine Do.seqk fun _ k6_ => ?_
  refine Do.seqk fun _ k7_ => ?_
  refine Do.region [0,1,2,27] true ?_
  simp [go_sem, hw0, hw1]
  apply k7_; clear k7_
  refine Do.cond [0,1,2] rfl (fun h3 => ?_) (fun h3 => ?_) <;> simp [go_sem, hw0, hw1] at h3 ⊢
  refine Do.seqk fun _ k8_ => ?_
  refine Do.draw [6,7] true (by kernel_rfl) ?_
  simp [go_sem, hw0, hw1]
  repeat (refine And.intro (by first | omega | (intros; omega) | (intros; exact And.intro (by assumption) (by omega)) | kernel_rfl | grind) ?_)
  try (refine And.intro (by kernel_rfl) ?_)
  apply k8_; clear k8_
  refine Do.ret ?_
  simp [endQ, rets, ret1, go_sem, hw0, hw1]
  repeat (refine And.intro (by first | omega | (intros; omega) | (intros; exact And.intro (by assumption) (by omega)) | grind) ?_)
  exact TLe.refl _
theorem drop_set {x : List Nat} {s : Nat} (hs : s < x.length) {w : Nat} (hw : x[s]? = some w) : (List.replicate (s + 1) 0 ++ x.drop (s + 1)).set s w = List.replicate s 0 ++ x.drop s := by
  rw [List.replicate_succ', List.append_assoc, List.set_append_right _ _ (by simp)]
  simp only [List.length_replicate, Nat.sub_self, List.cons_append, List.nil_append, List.set_cons_zero]
  rw [List.drop_eq_getElem_cons hs]
  congr 2
  rw [List.getElem?_eq_getElem hs] at hw
  exact (Option.some.inj hw).symm
theorem divWord_one {x : List Nat} (hx : x.length < 1073741824) (wx : Ws x) : Does Tryd.prog G 110 [Wd x, .c (.n 1)] (.t [Wn (nat (val x)), .c (.n 0)]) := by
  have hT := @Trim_does G x (by unfold Sh; omega) wx
  have hlen : ∀ s, s ≤ x.length → (List.replicate s 0 ++ x.drop s).length = x.length := fun s hs => by simp; omega
  refine Does.of (nt := 35) Tryd.func110 rfl rfl rfl (by simp) ?_
  simp only [argTm, PV.ext, Ce.ext]
  refine Do.seqk fun _ k1_ => ?_
  refine Do.region [0,1] true ?_
  simp [go_sem, -List.reduceReplicate]
  apply k1_; clear k1_
  refine Do.seqk fun _ k2_ => ?_
  refine Do.region [0,1,6] true ?_
  simp [go_sem, -List.reduceReplicate]
  repeat (refine And.intro (by first | omega | (intros; omega) | (intros; exact And.intro (by assumption) (by omega)) | grind) ?_)
  apply k2_; clear k2_
  refine Do.seqk fun _ k3_ => ?_
  refine Do.region [0,1,6,7] true ?_
  simp [go_sem, -List.reduceReplicate]
  apply k3_; clear k3_
  refine Do.seqk fun _ k4_ => ?_
  refine Do.seqk fun _ k5_ => ?_
  refine Do.region [0,1,6,7,8] true ?_
  simp [go_sem, -List.reduceReplicate]
  repeat (refine And.intro (by first | omega | (intros; omega) | (intros; exact And.intro (by assumption) (by omega)) | grind) ?_)
  apply k5_; clear k5_
  refine Do.block ?_
  refine Do.loopF [0,1,6,7,8] (fun (s : Nat) => [(7, .v (.c (.n 0))), (8, .int .i64 ((s : Int) - 1))]) (fun (s : Nat) => [(102, .wr (List.replicate s 0 ++ x.drop s))]) (fun (s : Nat) => s ≤ x.length) (fun (s : Nat) => s) (x.length) (fun _ => by first | (simp [go_sem, mixS]; done) | (simp [go_sem, mixS]; rfl)) (St.le_of (by simp [keep]) (by simp [keep])) (Nat.le_refl _) ?_
  intro s hs
  refine Do.seqk fun _ k6_ => ?_
  refine Do.seqk fun _ k7_ => ?_
  refine Do.region [0,1,6,7,8,16] true ?_
  simp [go_sem, -List.reduceReplicate]
  apply k7_; clear k7_
  refine Do.cond [0,1,6,7,8] rfl (fun h => ?_) (fun h => ?_) <;> simp [go_sem, -List.reduceReplicate] at h ⊢
  · obtain ⟨j, rfl⟩ : ∃ j, s = j + 1 := ⟨s - 1, by omega⟩
    obtain ⟨w, hw⟩ : ∃ w, x[j]? = some w := ⟨_, List.getElem?_eq_getElem (by omega)⟩
    have hwl := wx w (List.mem_of_getElem? hw)
    have hD := @Div64_low G w 1 hwl (by decide)
    rw [Nat.div_one, Nat.mod_one] at hD
    have hset := drop_set (show j < x.length by omega) hw
    have hl := hlen (j + 1) hs
    refine Do.skip ?_
    simp [go_sem]
    apply k6_; clear k6_
    refine Do.seqk fun _ k8_ => ?_
    refine Do.block ?_
    refine Do.region [0,1,6,7,8] true ?_
    simp [go_sem, show ((j : Int) + 1 - 1) = j by omega, hw, hl, -List.reduceReplicate]
    repeat (refine And.intro (by first | omega | (intros; omega) | (intros; exact And.intro (by assumption) (by omega)) | grind) ?_)
    refine DoL.call true 609 rfl rfl rfl rfl (by first | exact trivial | omega | (simp; done) | (simp; omega)) (hD) rfl (by first | exact .inl rfl | exact .inr rfl) rfl ?_
    simp [go_sem, show ((j : Int) + 1 - 1) = j by omega, hw, hl, -List.reduceReplicate]
    repeat (refine And.intro (by first | omega | (intros; omega) | (intros; exact And.intro (by assumption) (by omega)) | grind) ?_)
    apply k8_; clear k8_
    refine Do.region [0,1,6,7,8] true ?_
    simp [go_sem, show ((j : Int) + 1 - 1) = j by omega, hw, hl, -List.reduceReplicate]
    repeat (refine And.intro (by first | omega | (intros; omega) | (intros; exact And.intro (by assumption) (by omega)) | grind) ?_)
    refine ⟨j, St.le_of rfl (by simp [keep, ← hset, List.set_append_left]), by omega, by simp⟩
  · obtain rfl : s = 0 := by omega
    refine Do.exit ?_
    simp [go_sem]
    apply k4_; clear k4_
    refine Do.seqk fun _ k9_ => ?_
    refine Do.frz 102 rfl ?_
    simp [go_sem]
    refine Do.region [4,5] true ?_
    simp [go_sem, -List.reduceReplicate]
    refine DoL.call true 702 rfl rfl rfl rfl (by first | exact trivial | omega | (simp; done) | (simp; omega)) (hT) rfl (by first | exact .inl rfl | exact .inr rfl) rfl ?_
    simp [go_sem, -List.reduceReplicate]
    apply k9_; clear k9_
    refine Do.ret ?_
    simp [endQ, rets, ret1, go_sem, -List.reduceReplicate]
    repeat (refine And.intro (by first | omega | (intros; omega) | (intros; exact And.intro (by assumption) (by omega)) | grind) ?_)
    exact TLe.refl _
theorem WWord_zero : Does Tryd.prog G 111 [.c (.n 0)] (.v (Wn (nat 0))) := by
  have hT := @Trim_does G [0] (by decide) (fun w hw => by simp at hw; omega)
  refine Does.of (nt := 6) Tryd.func111 rfl rfl rfl (by simp) ?_
  simp only [argTm, PV.ext, Ce.ext]
  refine Do.seqk fun _ k1_ => ?_
  refine Do.region [0] true ?_
  simp [go_sem]
  apply k1_; clear k1_
  refine Do.seqk fun _ k2_ => ?_
  refine Do.region [2] true ?_
  simp [go_sem]
  refine DoL.frz true 102 101 rfl ?_
  simp [go_sem]
  refine DoL.call true 103 rfl rfl rfl rfl (by first | exact trivial | omega | (simp; done) | (simp; omega)) (hT) rfl (by first | exact .inl rfl | exact .inr rfl) rfl ?_
  simp [go_sem]
  apply k2_; clear k2_
  refine Do.ret ?_
  simp [endQ, rets, ret1, go_sem]
  repeat (refine And.intro (by first | omega | (intros; omega) | (intros; exact And.intro (by assumption) (by omega)) | grind) ?_)
  exact TLe.refl _
theorem WDivMod_one {x : List Nat} (hx : x.length < 1073741824) (wx : Ws x) (h0 : 0 < val x) : Does Tryd.prog G 92 [Wd x, Wd [1]] (.t [Wn (nat (val x)), Wn (nat 0)]) := by
  have w1 : Ws [1] := fun w hw => by simp at hw; omega
  have h1 := @view_does G x (by unfold Sh; omega)
  have h2 : Does Tryd.prog G 86 [Wd [1]] (.v (Wd [1])) := @view_does G [1] (by decide)
  have hn := norm_length x
  have h3 := @Cmp_does G (norm x) [1] (by unfold Sh; omega) (by decide) (norm_ws wx) w1
  rw [val_norm, show val [1] = 1 from rfl, if_neg (by omega)] at h3
  have h4 := @divWord_one G (norm x) (by omega) (norm_ws wx)
  rw [val_norm] at h4
  have h5 : ¬ (if 1 < val x then (1 : Int) else 0) < 0 := by split <;> omega
  refine Does.of (nt := 127) Tryd.func92 rfl rfl rfl (by simp) ?_
  simp only [argTm, PV.ext, Ce.ext]
  refine Do.seqk fun _ k1_ => ?_
  refine Do.region [0,1] true ?_
  simp [go_sem]
  apply k1_; clear k1_
  refine Do.seqk fun _ k2_ => ?_
  refine Do.region [0,1] true ?_
  simp [go_sem]
  refine DoL.call true 102 rfl rfl rfl rfl (by first | exact trivial | omega | (simp; done) | (simp; omega)) (h1) rfl (by first | exact .inl rfl | exact .inr rfl) rfl ?_
  simp [go_sem]
  refine DoL.call true 104 rfl rfl rfl rfl (by first | exact trivial | omega | (simp; done) | (simp; omega)) (h2) rfl (by first | exact .inl rfl | exact .inr rfl) rfl ?_
  simp [go_sem]
  apply k2_; clear k2_
  refine Do.seqk fun _ k3_ => ?_
  refine Do.seqk fun _ k4_ => ?_
  refine Do.region [0,1,22] true ?_
  simp [go_sem, h5]
  refine DoL.call true 203 rfl rfl rfl rfl (by first | exact trivial | omega | (simp; done) | (simp; omega)) (h3) rfl (by first | exact .inl rfl | exact .inr rfl) rfl ?_
  simp [go_sem, h5]
  apply k4_; clear k4_
  refine Do.cond [0,1] rfl (fun g1 => ?_) (fun g1 => ?_) <;> simp [go_sem, h5] at g1 ⊢
  refine Do.skip ?_
  simp [go_sem]
  apply k3_; clear k3_
  refine Do.seqk fun _ k5_ => ?_
  refine Do.seqk fun _ k6_ => ?_
  refine Do.region [0,1,27] true ?_
  simp [go_sem, h5]
  repeat (refine And.intro (by first | omega | (intros; omega) | (intros; exact And.intro (by assumption) (by omega)) | grind) ?_)
  apply k6_; clear k6_
  refine Do.cond [0,1] rfl (fun g2 => ?_) (fun g2 => ?_) <;> simp [go_sem, h5] at g2 ⊢
  refine Do.seqk fun _ k7_ => ?_
  refine Do.region [6,7] true ?_
  simp [go_sem, h5]
  repeat (refine And.intro (by first | omega | (intros; omega) | (intros; exact And.intro (by assumption) (by omega)) | grind) ?_)
  refine DoL.call true 505 rfl rfl rfl rfl (by first | exact trivial | omega | (simp; done) | (simp; omega)) (h4) rfl (by first | exact .inl rfl | exact .inr rfl) rfl ?_
  simp [go_sem, h5]
  apply k7_; clear k7_
  refine Do.seqk fun _ k8_ => ?_
  refine Do.region [4,5] true ?_
  simp [go_sem, h5]
  refine DoL.call true 603 rfl rfl rfl rfl (by first | exact trivial | omega | (simp; done) | (simp; omega)) (WWord_zero) rfl (by first | exact .inl rfl | exact .inr rfl) rfl ?_
  simp [go_sem, h5]
  apply k8_; clear k8_
  refine Do.ret ?_
  simp [endQ, rets, ret1, go_sem, h5]
  repeat (refine And.intro (by first | omega | (intros; omega) | (intros; exact And.intro (by assumption) (by omega)) | grind) ?_)
  exact TLe.refl _
theorem Ratio_one {f p r : Int} (hf : fmOk f p = true) (hr : 0 ≤ r) (hr' : r ≤ 4) {n : Bool} {m : List Nat} (hm : m.length ≤ 4096) (wm : Ws m) (h0 : 0 < val m) : Does Tryd.prog Gv 61 [Fm f p, .c (.i .i64 r), .c (.b n), Wd m, Wd [1], .c (.i .i64 0)] (.t [(roundP f p r n (val m) 0 false).1.pv, .c (.i .i64 (roundP f p r n (val m) 0 false).2)]) := by
  obtain ⟨b1, b2, b3, b4⟩ := fmOk_spec hf
  obtain ⟨b5, b6⟩ := gOfE_le b1 b2
  have w1 : Ws [1] := fun w hw => by simp at hw; omega
  have hb : bl (val m) ≤ 64 * m.length := bl_le_len wm (Nat.le_refl _)
  have hL := @Len_does Gv m (by unfold Sh; omega) wm
  have hL1 : Does Tryd.prog Gv 54 [Wd [1]] (.int .i64 1) := @Len_does Gv [1] (by decide) w1
  by_cases hs : p + 3 - bl (val m) + 1 > 0
  · obtain ⟨s, hs'⟩ : ∃ s : Nat, p + 3 - bl (val m) + 1 = s := ⟨(p + 3 - bl (val m) + 1).toNat, by omega⟩
    have hS := @Shl_does Gv m (by unfold Sh; omega) wm s (by omega)
    have hpos : 0 < val m * 2 ^ s := Nat.mul_pos h0 (Nat.pow_pos (by decide))
    have hbl : bl (val m * 2 ^ s) = s + bl (val m) := bl_mul_pow _ _ h0
    have hD := @WDivMod_one Gv (nat (val m * 2 ^ s)) (by have := nat_len_bl (val m * 2 ^ s); omega) (nat_ws _) (by rw [val_nat]; exact hpos)
    rw [val_nat] at hD
    have hZ := @Zero_does Gv (nat 0) (by rw [nat_zero]; decide)
    rw [val_nat] at hZ
    have hF := @Float_does f p r hf hr hr' n (val m * 2 ^ s) (0 - (s : Int)) false (by omega) (by omega)
    rw [roundP_scale s h0] at hF
    generalize roundP f p r n (val m) 0 false = z at *
    generalize val m * 2 ^ s = u at *
    rw [Int.zero_sub] at hF
    refine Does.of (nt := 50) Tryd.func61 rfl rfl rfl (by simp) ?_
    simp only [argTm, PV.ext, Ce.ext]
    refine Do.seqk fun _ k1_ => ?_
    refine Do.region [1,2,3,4,5,6,12] true ?_
    simp [go_sem]
    apply k1_; clear k1_
    refine Do.seqk fun _ k2_ => ?_
    refine Do.draw [1,2,3,4,5,6,12,14] true (by kernel_rfl) ?_
    simp [go_sem]
    repeat (refine And.intro (by first | omega | (intros; omega) | (intros; exact And.intro (by assumption) (by omega)) | kernel_rfl | grind) ?_)
    refine DoLD.call true 105 rfl rfl rfl rfl (by first | exact trivial | omega | (simp; done) | (simp; omega)) (hL) rfl (by first | exact .inl rfl | exact .inr rfl) rfl ?_
    simp [go_sem]
    repeat (refine And.intro (by first | omega | (intros; omega) | (intros; exact And.intro (by assumption) (by omega)) | kernel_rfl | grind) ?_)
    refine DoLD.call true 108 rfl rfl rfl rfl (by first | exact trivial | omega | (simp; done) | (simp; omega)) (hL1) rfl (by first | exact .inl rfl | exact .inr rfl) rfl ?_
    simp [go_sem]
    repeat (refine And.intro (by first | omega | (intros; omega) | (intros; exact And.intro (by assumption) (by omega)) | kernel_rfl | grind) ?_)
    try (refine And.intro (by kernel_rfl) ?_)
    apply k2_; clear k2_
    refine Do.seqk fun _ k3_ => ?_
    refine Do.seqk fun _ k4_ => ?_
    refine Do.region [1,2,3,4,5,6,12,14,27] true ?_
    simp [go_sem, hs']
    apply k4_; clear k4_
    refine Do.cond [1,2,3,4,5,6,12,14] rfl (fun g1 => ?_) (fun g1 => ?_) <;> simp [go_sem, hs'] at g1 ⊢
    · refine Do.region [1,2,3,4,5,6,12,14] true ?_
      simp [go_sem, hs']
      refine DoL.call true 303 rfl rfl rfl rfl (by first | exact trivial | omega | (simp; done) | (simp; omega)) (hS) rfl (by first | exact .inl rfl | exact .inr rfl) rfl ?_
      simp [go_sem, hs']
      apply k3_; clear k3_
      refine Do.seqk fun _ k5_ => ?_
      refine Do.region [1,2,5,6,12,14,15,16] true ?_
      simp [go_sem, hs']
      refine DoL.call true 503 rfl rfl rfl rfl (by first | exact trivial | omega | (simp; done) | (simp; omega)) (hD) rfl (by first | exact .inl rfl | exact .inr rfl) rfl ?_
      simp [go_sem, hs']
      apply k5_; clear k5_
      refine Do.seqk fun _ k6_ => ?_
      refine Do.draw [12,13] true (by kernel_rfl) ?_
      simp [go_sem, hs']
      repeat (refine And.intro (by first | omega | (intros; omega) | (intros; exact And.intro (by assumption) (by omega)) | kernel_rfl | grind) ?_)
      refine DoLD.call true 609 rfl rfl rfl rfl (by first | exact trivial | omega | (simp; done) | (simp; omega)) (hZ) rfl (by first | exact .inl rfl | exact .inr rfl) rfl ?_
      simp [go_sem, hs']
      repeat (refine And.intro (by first | omega | (intros; omega) | (intros; exact And.intro (by assumption) (by omega)) | kernel_rfl | grind) ?_)
      refine DoLD.call true 611 rfl rfl rfl rfl (by first | exact trivial | omega | (simp; done) | (simp; omega)) (hF) rfl (by first | exact .inl rfl | exact .inr rfl) rfl ?_
      simp [go_sem, hs']
      repeat (refine And.intro (by first | omega | (intros; omega) | (intros; exact And.intro (by assumption) (by omega)) | kernel_rfl | grind) ?_)
      try (refine And.intro (by kernel_rfl) ?_)
      apply k6_; clear k6_
      refine Do.ret ?_
      simp [endQ, rets, ret1, go_sem, hs']
      repeat (refine And.intro (by first | omega | (intros; omega) | (intros; exact And.intro (by assumption) (by omega)) | grind) ?_)
      exact TLe.refl _
    · omega
  · have hD := @WDivMod_one Gv m (by omega) wm h0
    have hZ := @Zero_does Gv (nat 0) (by rw [nat_zero]; decide)
    rw [val_nat] at hZ
    have hF := @Float_does f p r hf hr hr' n (val m) 0 false (by omega) (by omega)
    generalize roundP f p r n (val m) 0 false = z at *
    generalize hv : val m = v at *
    refine Does.of (nt := 50) Tryd.func61 rfl rfl rfl (by simp) ?_
    simp only [argTm, PV.ext, Ce.ext]
    refine Do.seqk fun _ k1_ => ?_
    refine Do.region [1,2,3,4,5,6,12] true ?_
    simp [go_sem]
    apply k1_; clear k1_
    refine Do.seqk fun _ k2_ => ?_
    refine Do.draw [1,2,3,4,5,6,12,14] true (by kernel_rfl) ?_
    simp [go_sem]
    repeat (refine And.intro (by first | omega | (intros; omega) | (intros; exact And.intro (by assumption) (by omega)) | kernel_rfl | grind) ?_)
    refine DoLD.call true 105 rfl rfl rfl rfl (by first | exact trivial | omega | (simp; done) | (simp; omega)) (hL) rfl (by first | exact .inl rfl | exact .inr rfl) rfl ?_
    simp [go_sem]
    repeat (refine And.intro (by first | omega | (intros; omega) | (intros; exact And.intro (by assumption) (by omega)) | kernel_rfl | grind) ?_)
    refine DoLD.call true 108 rfl rfl rfl rfl (by first | exact trivial | omega | (simp; done) | (simp; omega)) (hL1) rfl (by first | exact .inl rfl | exact .inr rfl) rfl ?_
    simp [go_sem]
    repeat (refine And.intro (by first | omega | (intros; omega) | (intros; exact And.intro (by assumption) (by omega)) | kernel_rfl | grind) ?_)
    try (refine And.intro (by kernel_rfl) ?_)
    apply k2_; clear k2_
    refine Do.seqk fun _ k3_ => ?_
    refine Do.seqk fun _ k4_ => ?_
    refine Do.region [1,2,3,4,5,6,12,14,27] true ?_
    simp [go_sem]
    apply k4_; clear k4_
    refine Do.cond [1,2,3,4,5,6,12,14] rfl (fun g1 => ?_) (fun g1 => ?_) <;> simp [go_sem] at g1 ⊢
    · exact absurd g1 (by omega)
    · refine Do.region [1,2,3,4,5,6,12,14] true ?_
      simp [go_sem]
      apply k3_; clear k3_
      refine Do.seqk fun _ k5_ => ?_
      refine Do.region [1,2,5,6,12,14,15,16] true ?_
      simp [go_sem]
      refine DoL.call true 503 rfl rfl rfl rfl (by first | exact trivial | omega | (simp; done) | (simp; omega)) (hD) rfl (by first | exact .inl rfl | exact .inr rfl) rfl ?_
      simp [go_sem]
      apply k5_; clear k5_
      refine Do.seqk fun _ k6_ => ?_
      refine Do.draw [12,13] true (by kernel_rfl) ?_
      simp [go_sem]
      repeat (refine And.intro (by first | omega | (intros; omega) | (intros; exact And.intro (by assumption) (by omega)) | kernel_rfl | grind) ?_)
      refine DoLD.call true 609 rfl rfl rfl rfl (by first | exact trivial | omega | (simp; done) | (simp; omega)) (hZ) rfl (by first | exact .inl rfl | exact .inr rfl) rfl ?_
      simp [go_sem]
      repeat (refine And.intro (by first | omega | (intros; omega) | (intros; exact And.intro (by assumption) (by omega)) | kernel_rfl | grind) ?_)
      refine DoLD.call true 611 rfl rfl rfl rfl (by first | exact trivial | omega | (simp; done) | (simp; omega)) (hF) rfl (by first | exact .inl rfl | exact .inr rfl) rfl ?_
      simp [go_sem]
      repeat (refine And.intro (by first | omega | (intros; omega) | (intros; exact And.intro (by assumption) (by omega)) | kernel_rfl | grind) ?_)
      try (refine And.intro (by kernel_rfl) ?_)
      apply k6_; clear k6_
      refine Do.ret ?_
      simp [endQ, rets, ret1, go_sem]
      repeat (refine And.intro (by first | omega | (intros; omega) | (intros; exact And.intro (by assumption) (by omega)) | grind) ?_)
      exact TLe.refl _
end Go.Proofs.YtokgalpflooegaaDoor
/- Conversions, plain. No condition. -/
namespace Go.Proofs.YtokgalpflooegaaDoor
set_option linter.unusedVariables false
set_option linter.unusedSimpArgs false
set_option maxHeartbeats 4000000
set_option maxRecDepth 10000
/-- The error of a conversion's arguments. -/
def argsC (f p g q r : Int) (b : Bool) (x : Fla) : Int :=
  if 4096 < x.m.length then 2 else if (decide (0 ≤ r) && decide (r ≤ 4) && !b) = false then 1 else if fmOk f p = false ∨ fmOk g q = false then 150 else if (holdsP f p x.flt).2 = false then 151 else 0
theorem argsC_same (f p r : Int) (b : Bool) (x : Fla) : argsC f p f p r b x = argsE f p r b [x] := by
  unfold argsC argsE
  simp [anyLarge, allHold]
theorem argsC_want (f p g q r : Int) (b : Bool) (x : Fla) : argsC f p g q r b x = if (argsE f p r b [x] = 0 ∨ argsE f p r b [x] = 151) ∧ fmOk g q = false then 150 else argsE f p r b [x] := by
  rw [← argsC_same]
  unfold argsC
  by_cases h1 : 4096 < x.m.length
  · simp [h1]
  · cases h2 : (decide (0 ≤ r) && decide (r ≤ 4) && !b) <;> cases h3 : fmOk f p <;> cases h4 : fmOk g q <;> cases h5 : (holdsP f p x.flt).2 <;> simp [h1, h2, h3, h4, h5]
theorem argsC_zero {f p g q r : Int} {b : Bool} {x : Fla} (h : argsC f p g q r b x = 0) : x.m.length ≤ 4096 ∧ 0 ≤ r ∧ r ≤ 4 ∧ b = false ∧ fmOk f p = true ∧ fmOk g q = true ∧ (holdsP f p x.flt).2 = true := by
  unfold argsC at h
  by_cases h1 : 4096 < x.m.length
  · simp [h1] at h
  · cases h2 : (decide (0 ≤ r) && decide (r ≤ 4) && !b) <;> cases h3 : fmOk f p <;> cases h4 : fmOk g q <;> cases h5 : (holdsP f p x.flt).2 <;> simp [h1, h2, h3, h4, h5] at h
    simp only [Bool.and_eq_true, decide_eq_true_eq, Bool.not_eq_true'] at h2
    exact ⟨by omega, h2.1.1, h2.1.2, h2.2, rfl, rfl, rfl⟩
theorem argsC_ok {f p g q r : Int} {x : Fla} (h1 : x.m.length ≤ 4096) (h2 : 0 ≤ r) (h3 : r ≤ 4) (h4 : fmOk f p = true) (h5 : fmOk g q = true) (h6 : (holdsP f p x.flt).2 = true) : argsC f p g q r false x = 0 := by
  unfold argsC
  rw [if_neg (by omega), if_neg (by simp; omega), if_neg (by simp [h4, h5]), if_neg (by rw [h6]; decide)]
/-- A float, rounded to a format. -/
def convA (g q r : Int) (a : Flt) : Flt × Int := if a.k = 1 then (Nu.mk a.n a.v a.e).round g q r false else (a, 0)
def convP (f p g q r : Int) (x : Fla) : Flt × Int × Int :=
  if argsC f p g q r false x = 0 then ((convA g q r (holdsP f p x.flt).1).1, (convA g q r (holdsP f p x.flt).1).2, 0) else (⟨0, false, 0, 0⟩, 0, argsC f p g q r false x)
/-- Is every float of a format one of another? -/
def fitP (f p g q : Int) : Bool := decide (p ≤ q) && decide (gOfE f ≤ gOfE g) && decide (1 - gOfE g - (q - 1) ≤ 1 - gOfE f - (p - 1))
theorem held_fin20 {f p : Int} {x : Flt} (h : (holdsP f p x).2 = true) (hk : (holdsP f p x).1.k = 1) : (bl (holdsP f p x).1.v : Int) ≤ p ∧ 1 - gOfE f - (p - 1) ≤ (holdsP f p x).1.e ∧ (holdsP f p x).1.e + bl (holdsP f p x).1.v ≤ gOfE f + 1 := by
  unfold holdsP at *
  split at h
  · rename_i hc
    rw [if_pos hc] at hk
    rcases hc with hc | hc
    · rw [h] at hc; cases hc
    · exact absurd hk hc
  · rename_i hc
    rw [if_neg hc]
    simp only [Bool.and_eq_true, decide_eq_true_eq] at h
    simp only []
    omega
theorem canon_rc {x : Flt} (h : (canon x).2 = true) : (canon (rcanon x)).2 = true := by
  have hk := (canon_kind h).1
  by_cases h1 : x.k = 1
  · have hb := canon_one h h1
    have e1 : rcanon x = ⟨1, x.n, x.e + tz x.v, x.v / 2 ^ tz x.v⟩ := by simp [rcanon, h1]
    have hd : x.v / 2 ^ tz x.v ≠ 0 := by
      obtain ⟨m, hm⟩ := tz_form (show 0 < x.v by omega)
      have : x.v / 2 ^ tz x.v = 2 * m + 1 := by
        conv => lhs; arg 1; rw [hm]
        exact Nat.mul_div_cancel_left _ (Nat.pow_pos (by decide))
      omega
    rw [e1]
    unfold canon
    simp only []
    rw [if_neg (by omega), if_neg (by omega), if_pos trivial, if_neg (by omega)]
    simp [tz_rest (show 0 < x.v by omega)]; omega
  · have e1 : rcanon x = ⟨x.k, x.n, 0, 0⟩ := by simp [rcanon, h1]
    rw [e1]
    unfold canon
    simp only []
    rcases hk with hk | hk | hk | hk
    · rw [if_pos (by omega)]; simp
    · exact absurd hk h1
    · rw [if_pos (by omega)]; simp
    · rw [if_neg (by omega), if_pos hk]; simp [(canon_kind h).2 hk]
/-- What is held: its canonical form is itself. -/
theorem held_canon {f p : Int} {x : Flt} (h : (holdsP f p x).2 = true) : canon (holdsP f p x).1 = ((holdsP f p x).1, true) := by
  have hr := held_rcanon h
  have h2 : (canon (holdsP f p x).1).2 = true := by
    rw [← hr.1]
    exact canon_rc hr.2
  have h4 : (canon (holdsP f p x).1).1 = (holdsP f p x).1 := by
    rw [← rcanon_good h2, ← hr.1]; exact rcanon_idem _
  exact Prod.ext h4 h2
theorem same_held20 {f p : Int} {x : Flt} (h : (holdsP f p x).2 = true) : sameP x (holdsP f p x).1 = true := by
  have hr := held_rcanon h
  have hc : (canon x).1 = (holdsP f p x).1 := by rw [← rcanon_good hr.2, hr.1]
  unfold sameP
  rw [hr.2, held_canon h, hc]
  simp
theorem held_mono {f p g q : Int} {x : Flt} (h : (holdsP f p x).2 = true) (hm : fitP f p g q = true) : holdsP g q (holdsP f p x).1 = ((holdsP f p x).1, true) := by
  have ho := held_fin20 h
  have hc := held_canon h
  generalize (holdsP f p x).1 = a at *
  unfold fitP at hm
  simp only [Bool.and_eq_true, decide_eq_true_eq] at hm
  unfold holdsP
  rw [hc]
  simp only []
  by_cases hk : a.k = 1
  · rw [if_neg (by simp [hk])]
    have := ho hk
    congr 1
    simp; omega
  · rw [if_pos (.inr hk)]
theorem held_pos {f p : Int} {x : Flt} (h : (holdsP f p x).2 = true) (hk : (holdsP f p x).1.k = 1) : (holdsP f p x).1.v ≠ 0 := by
  have hc := held_canon h
  exact (canon_one (by rw [hc]) hk).2.2
theorem convA_mono {f p g q r : Int} {x : Flt} (hg : fmOk g q = true) (h : (holdsP f p x).2 = true) (hm : fitP f p g q = true) : convA g q r (holdsP f p x).1 = ((holdsP f p x).1, 0) := by
  have ho := held_fin20 h
  have hp := held_pos h
  have hfx : rcanon (holdsP f p x).1 = (holdsP f p x).1 := by rw [← (held_rcanon h).1]; exact rcanon_idem _
  generalize (holdsP f p x).1 = a at *
  unfold fitP at hm
  simp only [Bool.and_eq_true, decide_eq_true_eq] at hm
  unfold convA
  split
  · rename_i hk
    have h1 := ho hk
    have h2 := hp hk
    unfold Nu.round
    simp only []
    rw [if_neg h2, roundP_exact hg (by omega) (by omega) (by omega) (by omega)]
    obtain ⟨k, n, e, v⟩ := a
    simp only at hk
    subst hk
    rw [hfx]
  · rfl
theorem fitP_refl (f p : Int) : fitP f p f p = true := by simp [fitP]
end Go.Proofs.YtokgalpflooegaaDoor
