/- The functions of package wide on words. No condition. Sums and differences of words. No condition. Shifts of words. No condition. Shifts of words to the right. No condition. The functions of package format on pure values. No condition. More of package format. No condition. The functions of package fin on pure values. No condition. -/
import Derived.Test.YtbhokdhkfodpfaaGreatDoorMd
import Derived.Test.YtbhokdhkfodpfaaGreatDoorMc
/- The functions of package wide on words. No condition. -/
namespace Go.Proofs.YtbhokdhkfodpfaaGreatDoor
set_option linter.unusedVariables false
set_option linter.unusedSimpArgs false
variable {G : Gl}
set_option maxHeartbeats 1000000
attribute [go_sem] val_nat
theorem Zero_does {x : List Nat} (hx : Sh x) : Does Tryz.prog G 110 [Wd x] (.v (.c (.b (decide (val x = 0))))) := by
  refine Does.of (nt := 7) (Tryz.func110) rfl rfl rfl (by simp) ?_
  simp only [argTm, PV.ext, Ce.ext]
  repeat (refine Do.seqk fun _ _ => ?_)
  refine Do.region [0,2] true ?_
  simp [go_sem]
  repeat (refine And.intro (by first | omega | (intros; omega) | (intros; exact And.intro (by assumption) (by omega))) ?_)
  apply_assumption -exfalso -symm
  repeat (refine Do.seqk fun _ _ => ?_)
  refine Do.region [0,2] true ?_
  simp [go_sem]
  repeat (refine And.intro (by first | omega | (intros; omega) | (intros; exact And.intro (by assumption) (by omega))) ?_)
  refine DoL.call true 0 rfl rfl rfl rfl (by first | exact trivial | omega | (simp; done) | (simp; omega)) (view_does hx) rfl (by first | exact .inl rfl | exact .inr rfl) rfl ?_
  simp [go_sem]
  repeat (refine And.intro (by first | omega | (intros; omega) | (intros; exact And.intro (by assumption) (by omega))) ?_)
  apply_assumption -exfalso -symm
  refine Do.ret ?_
  simp [endQ, rets, ret1, go_sem]
  repeat (refine And.intro (by first | omega | (intros; omega) | (intros; exact And.intro (by assumption) (by omega))) ?_)
  have e : (((norm x).length : Int) == 0) = decide (val x = 0) := by
    have := @norm_nil x
    have h2 : norm x = [] ↔ (norm x).length = 0 := List.length_eq_zero_iff.symm
    rw [Bool.eq_iff_iff]; simp; rw [← this, h2]
  rw [e]
  exact TLe.refl _
theorem Trim_does {x : List Nat} (hx : Sh x) (hw : Ws x) : Does Tryz.prog G 131 [Wd x] (.v (Wn (nat (val x)))) := by
  refine Does.of (nt := 12) (Tryz.func131) rfl rfl rfl (by simp) ?_
  simp only [argTm, PV.ext, Ce.ext]
  have hl := norm_length x
  rw [← norm_nat hw]
  repeat (refine Do.seqk fun _ _ => ?_)
  refine Do.region [0,2] true ?_
  simp [go_sem]
  repeat (refine And.intro (by first | omega | (intros; omega) | (intros; exact And.intro (by assumption) (by omega))) ?_)
  apply_assumption -exfalso -symm
  repeat (refine Do.seqk fun _ _ => ?_)
  refine Do.region [0,2,3] true ?_
  simp [go_sem]
  repeat (refine And.intro (by first | omega | (intros; omega) | (intros; exact And.intro (by assumption) (by omega))) ?_)
  refine DoL.call true 0 rfl rfl rfl rfl (by first | exact trivial | omega | (simp; done) | (simp; omega)) (view_does hx) rfl (by first | exact .inl rfl | exact .inr rfl) rfl ?_
  simp [go_sem]
  repeat (refine And.intro (by first | omega | (intros; omega) | (intros; exact And.intro (by assumption) (by omega))) ?_)
  apply_assumption -exfalso -symm
  repeat (refine Do.seqk fun _ _ => ?_)
  refine Do.region [0,2,3,8] true ?_
  simp [go_sem]
  repeat (refine And.intro (by first | omega | (intros; omega) | (intros; exact And.intro (by assumption) (by omega))) ?_)
  apply_assumption -exfalso -symm
  repeat (refine Do.seqk fun _ _ => ?_)
  refine Do.cond [0,2,3] rfl (fun h => ?_) (fun h => ?_) <;> simp [go_sem] at h ⊢
  · repeat (refine Do.seqk fun _ _ => ?_)
    refine Do.region [2] true ?_
    simp [go_sem]
    repeat (refine And.intro (by first | omega | (intros; omega) | (intros; exact And.intro (by assumption) (by omega))) ?_)
    apply_assumption -exfalso -symm
    refine Do.ret ?_
    simp [endQ, rets, ret1, go_sem]
    repeat (refine And.intro (by first | omega | (intros; omega) | (intros; exact And.intro (by assumption) (by omega))) ?_)
    exact TLe.refl _
  · refine Do.skip ?_
    simp [go_sem]
    apply_assumption -exfalso -symm
    repeat (refine Do.seqk fun _ _ => ?_)
    refine Do.region [2] true ?_
    simp [go_sem]
    repeat (refine And.intro (by first | omega | (intros; omega) | (intros; exact And.intro (by assumption) (by omega))) ?_)
    apply_assumption -exfalso -symm
    refine Do.ret ?_
    simp [endQ, rets, ret1, go_sem]
    repeat (refine And.intro (by first | omega | (intros; omega) | (intros; exact And.intro (by assumption) (by omega))) ?_)
    rw [h]
    exact PLe.z _
theorem Len_does {x : List Nat} (hx : Sh x) (hw : Ws x) : Does Tryz.prog G 107 [Wd x] (.int .i64 (bl (val x))) := by
  refine Does.of (nt := 20) (Tryz.func107) rfl rfl rfl (by simp) ?_
  simp only [argTm, PV.ext, Ce.ext]
  have hl := norm_length x
  have hn := norm_ws hw
  have hc := norm_cn x
  repeat (refine Do.seqk fun _ _ => ?_)
  refine Do.region [0,2] true ?_
  simp [go_sem]
  repeat (refine And.intro (by first | omega | (intros; omega) | (intros; exact And.intro (by assumption) (by omega))) ?_)
  apply_assumption -exfalso -symm
  rw [← val_norm x]
  repeat (refine Do.seqk fun _ _ => ?_)
  refine Do.region [0,2] true ?_
  simp [go_sem]
  repeat (refine And.intro (by first | omega | (intros; omega) | (intros; exact And.intro (by assumption) (by omega))) ?_)
  refine DoL.call true 0 rfl rfl rfl rfl (by first | exact trivial | omega | (simp; done) | (simp; omega)) (view_does hx) rfl (by first | exact .inl rfl | exact .inr rfl) rfl ?_
  simp [go_sem]
  repeat (refine And.intro (by first | omega | (intros; omega) | (intros; exact And.intro (by assumption) (by omega))) ?_)
  apply_assumption -exfalso -symm
  generalize norm x = y at *
  repeat (refine Do.seqk fun _ _ => ?_)
  refine Do.region [0,2,7] true ?_
  simp [go_sem]
  repeat (refine And.intro (by first | omega | (intros; omega) | (intros; exact And.intro (by assumption) (by omega))) ?_)
  apply_assumption -exfalso -symm
  repeat (refine Do.seqk fun _ _ => ?_)
  refine Do.cond [0,2] rfl (fun h => ?_) (fun h => ?_) <;> simp [go_sem] at h ⊢
  · repeat (refine Do.seqk fun _ _ => ?_)
    refine Do.region [2] true ?_
    simp [go_sem]
    repeat (refine And.intro (by first | omega | (intros; omega) | (intros; exact And.intro (by assumption) (by omega))) ?_)
    apply_assumption -exfalso -symm
    refine Do.ret ?_
    simp [endQ, rets, ret1, go_sem]
    repeat (refine And.intro (by first | omega | (intros; omega) | (intros; exact And.intro (by assumption) (by omega))) ?_)
    subst h
    exact TLe.refl _
  · refine Do.skip ?_
    simp [go_sem]
    apply_assumption -exfalso -symm
    have hp : 0 < y.length := List.length_pos_iff.2 h
    have hb := bl_word (hn.get (y.length - 1))
    repeat (refine Do.seqk fun _ _ => ?_)
    refine Do.region [2] true ?_
    simp [go_sem]
    repeat (refine And.intro (by first | omega | (intros; omega) | (intros; exact And.intro (by assumption) (by omega))) ?_)
    refine DoL.call true 0 rfl rfl rfl rfl (by first | exact trivial | omega | (simp; done) | (simp; omega)) (Len64_does (hn.get _)) rfl (by first | exact .inl rfl | exact .inr rfl) rfl ?_
    simp [go_sem]
    repeat (refine And.intro (by first | omega | (intros; omega) | (intros; exact And.intro (by assumption) (by omega))) ?_)
    rw [bitLen_bl (hn.get _)]
    repeat (refine And.intro (by first | omega | (intros; omega) | (intros; exact And.intro (by assumption) (by omega))) ?_)
    apply_assumption -exfalso -symm
    refine Do.ret ?_
    simp [endQ, rets, ret1, go_sem]
    repeat (refine And.intro (by first | omega | (intros; omega) | (intros; exact And.intro (by assumption) (by omega))) ?_)
    rw [bl_val hn hc hp]
    rw [show (64 * ((y.length : Int) - 1) + (bl (y[y.length - 1]?.getD 0) : Int)) = ((64 * (y.length - 1) + bl (y[y.length - 1]?.getD 0) : Nat) : Int) by omega]
    exact TLe.refl _
theorem Trailing_does {x : List Nat} (hx : Sh x) (hw : Ws x) : Does Tryz.prog Gv 153 [Wd x] (.int .i64 (tz (val x))) := by
  refine Does.of (nt := 20) (Tryz.func153) rfl rfl rfl (by simp) ?_
  simp only [argTm, PV.ext, Ce.ext]
  repeat (refine Do.seqk fun _ _ => ?_)
  refine Do.region [0,2] true ?_
  simp [go_sem]
  repeat (refine And.intro (by first | omega | (intros; omega) | (intros; exact And.intro (by assumption) (by omega))) ?_)
  apply_assumption -exfalso -symm
  repeat (refine Do.seqk fun _ _ => ?_)
  refine Do.region [2,5,6,7] true ?_
  simp [go_sem]
  repeat (refine And.intro (by first | omega | (intros; omega) | (intros; exact And.intro (by assumption) (by omega))) ?_)
  apply_assumption -exfalso -symm
  repeat (refine Do.seqk fun _ _ => ?_)
  refine Do.block ?_
  refine Do.loop (fun n : Nat => ⟨[(2, .int .i64 0), (5, .v (.c (.w false x))), (6, .int .i64 x.length), (7, .int .i64 n)], []⟩) (fun n => n ≤ x.length ∧ ∀ j, j < n → x[j]?.getD 0 = 0) (fun n => x.length - n) 0 (St.le_of rfl rfl) ⟨Nat.zero_le _, fun j hj => absurd hj (Nat.not_lt_zero j)⟩ ?_
  rintro n ⟨hn, hz⟩
  repeat (refine Do.seqk fun _ _ => ?_)
  refine Do.region [2,5,6,7,8] true ?_
  simp [go_sem]
  repeat (refine And.intro (by first | omega | (intros; omega) | (intros; exact And.intro (by assumption) (by omega))) ?_)
  apply_assumption -exfalso -symm
  repeat (refine Do.seqk fun _ _ => ?_)
  refine Do.cond [2,5,6,7] rfl (fun h => ?_) (fun h => ?_) <;> simp [go_sem] at h ⊢
  · refine Do.skip ?_
    simp [go_sem]
    apply_assumption -exfalso -symm
    repeat (refine Do.seqk fun _ _ => ?_)
    refine Do.block ?_
    repeat (refine Do.seqk fun _ _ => ?_)
    refine Do.region [2,3,4,5,6,7] true ?_
    simp [go_sem]
    repeat (refine And.intro (by first | omega | (intros; omega) | (intros; exact And.intro (by assumption) (by omega))) ?_)
    apply_assumption -exfalso -symm
    repeat (refine Do.seqk fun _ _ => ?_)
    refine Do.region [2,3,4,5,6,7,13] true ?_
    simp [go_sem]
    repeat (refine And.intro (by first | omega | (intros; omega) | (intros; exact And.intro (by assumption) (by omega))) ?_)
    apply_assumption -exfalso -symm
    repeat (refine Do.seqk fun _ _ => ?_)
    refine Do.cond [2,3,4,5,6,7] rfl (fun h2 => ?_) (fun h2 => ?_) <;> simp [go_sem] at h2 ⊢
    · have hp : 0 < x[n]?.getD 0 := by omega
      have hb := ctz_tz hp (hw.get n)
      repeat (refine Do.seqk fun _ _ => ?_)
      refine Do.region [2] true ?_
      simp [go_sem]
      repeat (refine And.intro (by first | omega | (intros; omega) | (intros; exact And.intro (by assumption) (by omega))) ?_)
      refine DoL.call true 0 rfl rfl rfl rfl (by first | exact trivial | omega | (simp; done) | (simp; omega)) (TrailingZeros64_does (hw.get n)) rfl (by first | exact .inl rfl | exact .inr rfl) rfl ?_
      simp [go_sem]
      repeat (refine And.intro (by first | omega | (intros; omega) | (intros; exact And.intro (by assumption) (by omega))) ?_)
      rw [hb.1]
      repeat (refine And.intro (by first | omega | (intros; omega) | (intros; exact And.intro (by assumption) (by omega))) ?_)
      apply_assumption -exfalso -symm
      refine Do.ret ?_
      simp [endQ, rets, ret1, go_sem]
      repeat (refine And.intro (by first | omega | (intros; omega) | (intros; exact And.intro (by assumption) (by omega))) ?_)
      rw [tz_val hw hz h2]
      rw [show (64 * (n : Int) + (tz (x[n]?.getD 0) : Int)) = ((64 * n + tz (x[n]?.getD 0) : Nat) : Int) by omega]
      exact TLe.refl _
    · refine Do.skip ?_
      simp [go_sem]
      apply_assumption -exfalso -symm
      repeat (refine Do.seqk fun _ _ => ?_)
      refine Do.region [2,5,6,7] true ?_
      simp [go_sem]
      repeat (refine And.intro (by first | omega | (intros; omega) | (intros; exact And.intro (by assumption) (by omega))) ?_)
      refine ⟨n + 1, St.le_of rfl rfl, ⟨by omega, fun j hj => ?_⟩, by simp <;> omega⟩
      by_cases e : j = n
      · subst e; exact h2
      · exact hz j (by omega)
  · refine Do.exit ?_
    simp [go_sem]
    apply_assumption -exfalso -symm
    repeat (refine Do.seqk fun _ _ => ?_)
    refine Do.region [2] true ?_
    simp [go_sem]
    repeat (refine And.intro (by first | omega | (intros; omega) | (intros; exact And.intro (by assumption) (by omega))) ?_)
    apply_assumption -exfalso -symm
    refine Do.ret ?_
    simp [endQ, rets, ret1, go_sem]
    repeat (refine And.intro (by first | omega | (intros; omega) | (intros; exact And.intro (by assumption) (by omega))) ?_)
    rw [val_zero_of (fun j => if hj : j < n then hz j hj else by rw [List.getElem?_eq_none (by omega)]; rfl), tz_zero]
    exact TLe.refl _
theorem Bit_does {x : List Nat} (hx : Sh x) (hw : Ws x) {i : Int} (h0 : -9223372036854775808 ≤ i) (h1 : i ≤ 9223372036854775807) : Does Tryz.prog G 156 [Wd x, .c (.i .i64 i)] (.v (.c (.b (decide (0 ≤ i) && decide (val x / 2 ^ i.toNat % 2 = 1))))) := by
  refine Does.of (nt := 26) (Tryz.func156) rfl rfl rfl (by simp) ?_
  simp only [argTm, PV.ext, Ce.ext]
  have hb := hw.get (i / 64).toNat
  repeat (refine Do.seqk fun _ _ => ?_)
  refine Do.region [0,1,4] true ?_
  simp [go_sem]
  repeat (refine And.intro (by first | omega | (intros; omega) | (intros; exact And.intro (by assumption) (by omega))) ?_)
  apply_assumption -exfalso -symm
  repeat (refine Do.seqk fun _ _ => ?_)
  refine Do.region [4] true ?_
  simp [go_sem]
  repeat (refine And.intro (by first | omega | (intros; omega) | (intros; exact And.intro (by assumption) (by omega))) ?_)
  refine ⟨fun a b => ⟨⟨a, b⟩, by omega, hb⟩, fun a b => ⟨⟨a, b⟩, Nat.lt_of_le_of_lt (Nat.div_le_self _ _) hb⟩, ?_⟩
  apply_assumption -exfalso -symm
  refine Do.ret ?_
  simp [endQ, rets, ret1, go_sem]
  repeat (refine And.intro (by first | omega | (intros; omega) | (intros; exact And.intro (by assumption) (by omega))) ?_)
  have e : (decide (0 ≤ i) && decide (i / 64 < ↑x.length) && x[(i / 64).toNat]?.getD 0 / 2 ^ (i % 64).toNat % 2 == 1) = (decide (0 ≤ i) && decide (val x / 2 ^ i.toNat % 2 = 1)) := by
    rw [Bool.eq_iff_iff, val_bit hw]
    simp
    constructor
    · rintro ⟨⟨a, b⟩, c⟩
      refine ⟨a, ?_⟩
      rwa [show i.toNat / 64 = (i / 64).toNat by omega, show i.toNat % 64 = (i % 64).toNat by omega]
    · rintro ⟨a, c⟩
      rw [show i.toNat / 64 = (i / 64).toNat by omega, show i.toNat % 64 = (i % 64).toNat by omega] at c
      refine ⟨⟨a, ?_⟩, c⟩
      apply Classical.byContradiction
      intro hn
      rw [List.getElem?_eq_none (by omega)] at c
      simp at c
  rw [e]
  exact TLe.refl _
theorem Below_does {x : List Nat} (hx : Sh x) (hw : Ws x) {s : Int} (h0 : -9223372036854775808 ≤ s) (h1 : s ≤ 9223372036854775807) : Does Tryz.prog Gv 159 [Wd x, .c (.i .i64 s)] (.v (.c (.b (decide (0 < s) && !decide (val x % 2 ^ s.toNat = 0))))) := by
  refine Does.of (nt := 18) (Tryz.func159) rfl rfl rfl (by simp) ?_
  simp only [argTm, PV.ext, Ce.ext]
  repeat (refine Do.seqk fun _ _ => ?_)
  refine Do.region [0,1,4] true ?_
  simp [go_sem]
  repeat (refine And.intro (by first | omega | (intros; omega) | (intros; exact And.intro (by assumption) (by omega))) ?_)
  apply_assumption -exfalso -symm
  repeat (refine Do.seqk fun _ _ => ?_)
  refine Do.region [4] true ?_
  simp [go_sem]
  repeat (refine And.intro (by first | omega | (intros; omega) | (intros; exact And.intro (by assumption) (by omega))) ?_)
  refine DoL.callg true 0 rfl rfl rfl rfl rfl (by simp [go_sem] <;> omega) (fun _ => Zero_does hx) rfl (by first | exact .inl rfl | exact .inr rfl) rfl ?_
  simp [go_sem]
  repeat (refine And.intro (by first | omega | (intros; omega) | (intros; exact And.intro (by assumption) (by omega))) ?_)
  refine DoL.callg true 0 rfl rfl rfl rfl rfl (by simp [go_sem] <;> omega) (fun _ => Trailing_does hx hw) rfl (by first | exact .inl rfl | exact .inr rfl) rfl ?_
  simp [go_sem]
  repeat (refine And.intro (by first | omega | (intros; omega) | (intros; exact And.intro (by assumption) (by omega))) ?_)
  apply_assumption -exfalso -symm
  refine Do.ret ?_
  simp [endQ, rets, ret1, go_sem]
  repeat (refine And.intro (by first | omega | (intros; omega) | (intros; exact And.intro (by assumption) (by omega))) ?_)
  have e : (decide (0 < s) && !decide (val x = 0) && decide ((tz (val x) : Int) < s)) = (decide (0 < s) && !decide (val x % 2 ^ s.toNat = 0)) := by
    by_cases h : val x = 0
    · simp [h]
    · have := tz_dvd (n := val x) (k := s.toNat) (by omega)
      rw [Bool.eq_iff_iff]; simp [h, this]; try omega
  rw [e]
  exact TLe.refl _
theorem Cmp_does {x y : List Nat} (hx : Sh x) (hy : Sh y) (wx : Ws x) (wy : Ws y) : Does Tryz.prog G 121 [Wd x, Wd y] (.int .i64 (if val x < val y then -1 else if val y < val x then 1 else 0)) := by
  refine Does.of (nt := 45) (Tryz.func121) rfl rfl rfl (by simp) ?_
  simp only [argTm, PV.ext, Ce.ext]
  have hlx := norm_length x
  have hly := norm_length y
  have nx := norm_ws wx
  have ny := norm_ws wy
  have cx := norm_cn x
  have cy := norm_cn y
  have ret_ : ∀ {v w : Int}, v = w → TLe (tvOf [PV.c (Ce.i IntKind.i64 v)]) (TV.int IntKind.i64 w) := fun h => h ▸ TLe.refl _
  repeat (refine Do.seqk fun _ _ => ?_)
  refine Do.region [0,1,4] true ?_
  simp [go_sem]
  repeat (refine And.intro (by first | omega | (intros; omega) | (intros; exact And.intro (by assumption) (by omega))) ?_)
  apply_assumption -exfalso -symm
  repeat (refine Do.seqk fun _ _ => ?_)
  refine Do.region [0,1,4] true ?_
  simp [go_sem]
  repeat (refine And.intro (by first | omega | (intros; omega) | (intros; exact And.intro (by assumption) (by omega))) ?_)
  refine DoL.call true 0 rfl rfl rfl rfl (by first | exact trivial | omega | (simp; done) | (simp; omega)) (view_does hx) rfl (by first | exact .inl rfl | exact .inr rfl) rfl ?_
  simp [go_sem]
  repeat (refine And.intro (by first | omega | (intros; omega) | (intros; exact And.intro (by assumption) (by omega))) ?_)
  refine DoL.call true 0 rfl rfl rfl rfl (by first | exact trivial | omega | (simp; done) | (simp; omega)) (view_does hy) rfl (by first | exact .inl rfl | exact .inr rfl) rfl ?_
  simp [go_sem]
  repeat (refine And.intro (by first | omega | (intros; omega) | (intros; exact And.intro (by assumption) (by omega))) ?_)
  apply_assumption -exfalso -symm
  rw [← val_norm x, ← val_norm y]
  generalize norm x = x' at *
  generalize norm y = y' at *
  repeat (refine Do.seqk fun _ _ => ?_)
  refine Do.region [0,1,4,14] true ?_
  simp [go_sem]
  repeat (refine And.intro (by first | omega | (intros; omega) | (intros; exact And.intro (by assumption) (by omega))) ?_)
  apply_assumption -exfalso -symm
  repeat (refine Do.seqk fun _ _ => ?_)
  refine Do.cond [0,1,4] rfl (fun h => ?_) (fun h => ?_) <;> simp [go_sem] at h ⊢
  · repeat (refine Do.seqk fun _ _ => ?_)
    refine Do.region [4,19] true ?_
    simp [go_sem]
    repeat (refine And.intro (by first | omega | (intros; omega) | (intros; exact And.intro (by assumption) (by omega))) ?_)
    apply_assumption -exfalso -symm
    repeat (refine Do.seqk fun _ _ => ?_)
    refine Do.cond [4] rfl (fun h2 => ?_) (fun h2 => ?_) <;> simp [go_sem] at h2 ⊢
    · repeat (refine Do.seqk fun _ _ => ?_)
      refine Do.region [4] true ?_
      simp [go_sem]
      repeat (refine And.intro (by first | omega | (intros; omega) | (intros; exact And.intro (by assumption) (by omega))) ?_)
      apply_assumption -exfalso -symm
      refine Do.ret ?_
      simp [endQ, rets, ret1, go_sem]
      repeat (refine And.intro (by first | omega | (intros; omega) | (intros; exact And.intro (by assumption) (by omega))) ?_)
      exact ret_ (by rw [if_pos (val_lt_len nx cy h2)])
    · refine Do.skip ?_
      simp [go_sem]
      apply_assumption -exfalso -symm
      repeat (refine Do.seqk fun _ _ => ?_)
      refine Do.region [4] true ?_
      simp [go_sem]
      repeat (refine And.intro (by first | omega | (intros; omega) | (intros; exact And.intro (by assumption) (by omega))) ?_)
      apply_assumption -exfalso -symm
      refine Do.ret ?_
      simp [endQ, rets, ret1, go_sem]
      repeat (refine And.intro (by first | omega | (intros; omega) | (intros; exact And.intro (by assumption) (by omega))) ?_)
      have := val_lt_len ny cx (show y'.length < x'.length by omega)
      exact ret_ (by rw [if_neg (by omega), if_pos this])
  · refine Do.skip ?_
    simp [go_sem]
    apply_assumption -exfalso -symm
    repeat (refine Do.seqk fun _ _ => ?_)
    refine Do.region [0,1,5] true ?_
    simp [go_sem]
    repeat (refine And.intro (by first | omega | (intros; omega) | (intros; exact And.intro (by assumption) (by omega))) ?_)
    apply_assumption -exfalso -symm
    repeat (refine Do.seqk fun _ _ => ?_)
    refine Do.block ?_
    refine Do.loop (fun i : Int => ⟨[(0, .v (.c (.w false x'))), (1, .v (.c (.w false y'))), (5, .int .i64 i)], []⟩) (fun i => -1 ≤ i ∧ i < x'.length ∧ ∀ j : Nat, i < j → x'[j]?.getD 0 = y'[j]?.getD 0) (fun i => (i + 1).toNat) (x'.length - 1) (St.le_of rfl rfl) ⟨by omega, by omega, fun j hj => by rw [List.getElem?_eq_none (by omega), List.getElem?_eq_none (by omega)]⟩ ?_
    rintro n ⟨hn, hn2, hz⟩
    repeat (refine Do.seqk fun _ _ => ?_)
    refine Do.region [0,1,5,24] true ?_
    simp [go_sem]
    repeat (refine And.intro (by first | omega | (intros; omega) | (intros; exact And.intro (by assumption) (by omega))) ?_)
    apply_assumption -exfalso -symm
    repeat (refine Do.seqk fun _ _ => ?_)
    refine Do.cond [0,1,5] rfl (fun h3 => ?_) (fun h3 => ?_) <;> simp [go_sem] at h3 ⊢
    · refine Do.skip ?_
      simp [go_sem]
      apply_assumption -exfalso -symm
      obtain ⟨k, rfl⟩ : ∃ k : Nat, n = k := ⟨n.toNat, by omega⟩
      have hz' : ∀ j : Nat, k < j → x'[j]?.getD 0 = y'[j]?.getD 0 := fun j hj => hz j (by omega)
      repeat (refine Do.seqk fun _ _ => ?_)
      refine Do.block ?_
      repeat (refine Do.seqk fun _ _ => ?_)
      refine Do.draw [0,1,5,35] true (by kernel_rfl) ?_
      simp [go_sem]
      repeat (refine And.intro (by first | omega | (intros; omega) | (intros; exact And.intro (by assumption) (by omega))) ?_)
      refine And.intro (by kernel_rfl) ?_
      apply_assumption -exfalso -symm
      repeat (refine Do.seqk fun _ _ => ?_)
      refine Do.cond [0,1,5] rfl (fun h4 => ?_) (fun h4 => ?_) <;> simp [go_sem] at h4 ⊢
      · repeat (refine Do.seqk fun _ _ => ?_)
        refine Do.draw [4,44] true (by kernel_rfl) ?_
        simp [go_sem]
        repeat (refine And.intro (by first | omega | (intros; omega) | (intros; exact And.intro (by assumption) (by omega))) ?_)
        refine And.intro (by kernel_rfl) ?_
        apply_assumption -exfalso -symm
        repeat (refine Do.seqk fun _ _ => ?_)
        refine Do.cond [4] rfl (fun h5 => ?_) (fun h5 => ?_) <;> simp [go_sem] at h5 ⊢
        · repeat (refine Do.seqk fun _ _ => ?_)
          refine Do.region [4] true ?_
          simp [go_sem]
          repeat (refine And.intro (by first | omega | (intros; omega) | (intros; exact And.intro (by assumption) (by omega))) ?_)
          apply_assumption -exfalso -symm
          refine Do.ret ?_
          simp [endQ, rets, ret1, go_sem]
          repeat (refine And.intro (by first | omega | (intros; omega) | (intros; exact And.intro (by assumption) (by omega))) ?_)
          exact ret_ (by rw [if_pos (val_lt_top nx (by omega) (by omega) hz' h5)])
        · refine Do.skip ?_
          simp [go_sem]
          apply_assumption -exfalso -symm
          repeat (refine Do.seqk fun _ _ => ?_)
          refine Do.region [4] true ?_
          simp [go_sem]
          repeat (refine And.intro (by first | omega | (intros; omega) | (intros; exact And.intro (by assumption) (by omega))) ?_)
          apply_assumption -exfalso -symm
          refine Do.ret ?_
          simp [endQ, rets, ret1, go_sem]
          repeat (refine And.intro (by first | omega | (intros; omega) | (intros; exact And.intro (by assumption) (by omega))) ?_)
          have := val_lt_top ny (by omega) (by omega) (fun j hj => (hz' j hj).symm) (show y'[k]?.getD 0 < x'[k]?.getD 0 by omega)
          exact ret_ (by rw [if_neg (by omega), if_pos this])
      · refine Do.skip ?_
        simp [go_sem]
        apply_assumption -exfalso -symm
        repeat (refine Do.seqk fun _ _ => ?_)
        refine Do.region [0,1,5] true ?_
        simp [go_sem]
        repeat (refine And.intro (by first | omega | (intros; omega) | (intros; exact And.intro (by assumption) (by omega))) ?_)
        refine ⟨(k : Int) - 1, St.le_of rfl rfl, ⟨by omega, by omega, fun j hj => ?_⟩, by simp <;> omega⟩
        by_cases e : j = k
        · subst e; exact h4
        · exact hz' j (by omega)
    · refine Do.exit ?_
      simp [go_sem]
      apply_assumption -exfalso -symm
      repeat (refine Do.seqk fun _ _ => ?_)
      refine Do.region [4] true ?_
      simp [go_sem]
      repeat (refine And.intro (by first | omega | (intros; omega) | (intros; exact And.intro (by assumption) (by omega))) ?_)
      apply_assumption -exfalso -symm
      refine Do.ret ?_
      simp [endQ, rets, ret1, go_sem]
      repeat (refine And.intro (by first | omega | (intros; omega) | (intros; exact And.intro (by assumption) (by omega))) ?_)
      have : x' = y' := getD_ext (by omega) fun j => hz j (by omega)
      exact ret_ (by rw [this]; simp)
end Go.Proofs.YtbhokdhkfodpfaaGreatDoor
/- Sums and differences of words. No condition. -/
namespace Go.Proofs.YtbhokdhkfodpfaaGreatDoor
set_option linter.unusedVariables false
set_option linter.unusedSimpArgs false
variable {G : Gl}
set_option maxHeartbeats 1000000
theorem carry_add {A B O P x y c : Nat} (h : A + B = O + P * c) : A + P * x + (B + P * y) = O + P * ((x + y + c) % 18446744073709551616) + P * 18446744073709551616 * ((x + y + c) / 18446744073709551616) := by
  have e := Nat.mod_add_div (x + y + c) 18446744073709551616
  rw [Nat.mul_assoc, Nat.add_assoc O, ← Nat.mul_add, e, Nat.mul_add, Nat.mul_add]
  omega
theorem Add_does {x y : List Nat} (hx : Sh x) (hy : Sh y) (wx : Ws x) (wy : Ws y) (lx : x.length < 1099511627775) (ly : y.length < 1099511627775) : Does Tryz.prog G 120 [Wd x, Wd y] (.v (Wn (nat (val x + val y)))) := by
  refine Does.of (nt := 54) (Tryz.func120) rfl rfl rfl (by simp) ?_
  simp only [argTm, PV.ext, Ce.ext]
  repeat (refine Do.seqk fun _ _ => ?_)
  refine Do.region [0,1,4] true ?_
  simp [go_sem]
  repeat (refine And.intro (by first | omega | (intros; omega) | (intros; exact And.intro (by assumption) (by omega))) ?_)
  apply_assumption -exfalso -symm
  refine Do.seqk fun K hK => ?_
  repeat (refine Do.seqk fun _ _ => ?_)
  refine Do.region [0,1,4,13] true ?_
  simp [go_sem]
  repeat (refine And.intro (by first | omega | (intros; omega) | (intros; exact And.intro (by assumption) (by omega))) ?_)
  apply_assumption -exfalso -symm
  suffices main : ∀ a b : List Nat, a.length < 1099511627775 → Ws a → Ws b → b.length ≤ a.length → val a + val b = val x + val y → K ⟨[(0, .v (.c (.w false a))), (1, .v (.c (.w false b))), (4, .v (.c .z))], []⟩ by
    repeat (refine Do.seqk fun _ _ => ?_)
    refine Do.cond [0,1,4] rfl (fun h => ?_) (fun h => ?_) <;> simp [go_sem] at h ⊢
    · repeat (refine Do.seqk fun _ _ => ?_)
      refine Do.region [0,1,4] true ?_
      simp [go_sem]
      repeat (refine And.intro (by first | omega | (intros; omega) | (intros; exact And.intro (by assumption) (by omega))) ?_)
      exact main y x ly wy wx (by omega) (Nat.add_comm _ _)
    · refine Do.skip ?_
      simp [go_sem]
      exact main x y lx wx wy (by omega) rfl
  intro a b la wa wb hl he
  apply hK
  rw [← he]
  clear he hx hy wx wy lx ly
  repeat (refine Do.seqk fun _ _ => ?_)
  refine Do.region [0,1,4,5] true ?_
  simp [go_sem]
  repeat (refine And.intro (by first | omega | (intros; omega) | (intros; exact And.intro (by assumption) (by omega))) ?_)
  apply_assumption -exfalso -symm
  repeat (refine Do.seqk fun _ _ => ?_)
  refine Do.region [0,1,4,5,6] true ?_
  simp [go_sem]
  repeat (refine And.intro (by first | omega | (intros; omega) | (intros; exact And.intro (by assumption) (by omega))) ?_)
  apply_assumption -exfalso -symm
  repeat (refine Do.seqk fun _ _ => ?_)
  refine Do.region [0,1,4,5,6,20,21,22] true ?_
  simp [go_sem]
  repeat (refine And.intro (by first | omega | (intros; omega) | (intros; exact And.intro (by assumption) (by omega))) ?_)
  apply_assumption -exfalso -symm
  have e0 : ((a.length : Int) + 1).toNat = a.length + 1 := by omega
  repeat (refine Do.seqk fun _ _ => ?_)
  refine Do.block ?_
  refine Do.loop (fun s : Nat × Nat × List Nat => ⟨[(0, .v (.c (.w false a))), (1, .v (.c (.w false b))), (4, .v (.c .z)), (5, .v (.c (.r 303 (a.length + 1)))), (6, .v (.c (.n s.2.1))), (20, .v (.c (.w false a))), (21, .int .i64 a.length), (22, .int .i64 s.1)], [(303, .wr s.2.2)]⟩)
    (fun s => s.1 ≤ a.length ∧ s.2.1 ≤ 1 ∧ s.2.2.length = a.length + 1 ∧ Ws s.2.2 ∧ val (a.take s.1) + val (b.take s.1) = val (s.2.2.take s.1) + 18446744073709551616 ^ s.1 * s.2.1)
    (fun s => a.length - s.1) (0, 0, List.replicate (a.length + 1) 0) (St.le_of (by simp [keep, e0]) (by simp [keep, e0])) ⟨Nat.zero_le _, Nat.zero_le _, by simp, Ws.zeros _, rfl⟩ ?_
  rintro ⟨i, c, out⟩ ⟨hi, hc, ho, hw, hv⟩
  simp only [] at hi hc ho hw hv ⊢
  repeat (refine Do.seqk fun _ _ => ?_)
  refine Do.region [0,1,4,5,6,20,21,22,23] true ?_
  simp [go_sem]
  repeat (refine And.intro (by first | omega | (intros; omega) | (intros; exact And.intro (by assumption) (by omega))) ?_)
  apply_assumption -exfalso -symm
  repeat (refine Do.seqk fun _ _ => ?_)
  refine Do.cond [0,1,4,5,6,20,21,22] rfl (fun h => ?_) (fun h => ?_) <;> simp [go_sem] at h ⊢
  · refine Do.skip ?_
    simp [go_sem]
    apply_assumption -exfalso -symm
    refine Do.seqk fun K2 hK2 => ?_
    repeat (refine Do.seqk fun _ _ => ?_)
    refine Do.block ?_
    repeat (refine Do.seqk fun _ _ => ?_)
    refine Do.region [0,1,4,5,6,7,20,21,22] true ?_
    simp [go_sem]
    repeat (refine And.intro (by first | omega | (intros; omega) | (intros; exact And.intro (by assumption) (by omega))) ?_)
    apply_assumption -exfalso -symm
    repeat (refine Do.seqk fun _ _ => ?_)
    refine Do.region [0,1,4,5,6,7,8,20,21,22] true ?_
    simp [go_sem]
    repeat (refine And.intro (by first | omega | (intros; omega) | (intros; exact And.intro (by assumption) (by omega))) ?_)
    apply_assumption -exfalso -symm
    refine Do.seqk fun K hK => ?_
    repeat (refine Do.seqk fun _ _ => ?_)
    refine Do.region [0,1,4,5,6,7,8,20,21,22,28] true ?_
    simp [go_sem]
    repeat (refine And.intro (by first | omega | (intros; omega) | (intros; exact And.intro (by assumption) (by omega))) ?_)
    apply_assumption -exfalso -symm
    suffices main : ∀ w : Nat, w = b[i]?.getD 0 → K ⟨[(0, .v (.c (.w false a))), (1, .v (.c (.w false b))), (4, .v (.c .z)), (5, .v (.c (.r 303 (a.length + 1)))), (6, .v (.c (.n c))), (7, .int .i64 i), (8, .v (.c (.n w))), (20, .v (.c (.w false a))), (21, .int .i64 a.length), (22, .int .i64 i)], [(303, .wr out)]⟩ by
      repeat (refine Do.seqk fun _ _ => ?_)
      refine Do.cond [0,1,4,5,6,7,8,20,21,22] rfl (fun h2 => ?_) (fun h2 => ?_) <;> simp [go_sem] at h2 ⊢
      · repeat (refine Do.seqk fun _ _ => ?_)
        refine Do.region [0,1,4,5,6,7,8,20,21,22] true ?_
        simp [go_sem]
        repeat (refine And.intro (by first | omega | (intros; omega) | (intros; exact And.intro (by assumption) (by omega))) ?_)
        exact main _ rfl
      · refine Do.skip ?_
        simp [go_sem]
        exact main 0 (by rw [List.getElem?_eq_none (by omega)]; rfl)
    intro w hwb
    apply hK
    repeat (refine Do.seqk fun _ _ => ?_)
    refine Do.region [0,1,4,5,6,20,21,22] true ?_
    simp [go_sem]
    repeat (refine And.intro (by first | omega | (intros; omega) | (intros; exact And.intro (by assumption) (by omega))) ?_)
    refine DoL.call true 0 rfl rfl rfl rfl (by first | exact trivial | omega | (simp; done) | (simp; omega)) (Add64_does hc) rfl (by first | exact .inl rfl | exact .inr rfl) rfl ?_
    simp [go_sem]
    repeat (refine And.intro (by first | omega | (intros; omega) | (intros; exact And.intro (by assumption) (by omega))) ?_)
    apply hK2
    repeat (refine Do.seqk fun _ _ => ?_)
    refine Do.region [0,1,4,5,6,20,21,22] true ?_
    simp [go_sem]
    repeat (refine And.intro (by first | omega | (intros; omega) | (intros; exact And.intro (by assumption) (by omega))) ?_)
    have ha := wa.get i
    have hb := wb.get i
    refine ⟨(i + 1, (a[i]?.getD 0 + w + c) / 18446744073709551616, out.set i ((a[i]?.getD 0 + w + c) % 18446744073709551616)), St.le_of rfl rfl, ⟨by simp; omega, by simp; omega, by simp [ho], hw.set (Nat.mod_lt _ (by omega)), ?_⟩, by simp; omega⟩
    simp only []
    rw [val_take_succ, val_take_succ b, val_take_set _ (by omega), Nat.pow_succ, ← hwb]
    exact carry_add hv
  · refine Do.exit ?_
    simp [go_sem]
    apply_assumption -exfalso -symm
    repeat (refine Do.seqk fun _ _ => ?_)
    refine Do.region [4,5] true ?_
    simp [go_sem]
    repeat (refine And.intro (by first | omega | (intros; omega) | (intros; exact And.intro (by assumption) (by omega))) ?_)
    apply_assumption -exfalso -symm
    repeat (refine Do.seqk fun _ _ => ?_)
    refine Do.region [4] true ?_
    simp [go_sem]
    repeat (refine And.intro (by first | omega | (intros; omega) | (intros; exact And.intro (by assumption) (by omega))) ?_)
    refine DoL.call true 0 rfl rfl rfl rfl (by first | exact trivial | omega | (simp; done) | (simp; omega)) (Trim_does (x := out.set a.length c) (by simp; omega) (hw.set (by omega))) rfl (by first | exact .inl rfl | exact .inr rfl) rfl ?_
    simp [go_sem]
    repeat (refine And.intro (by first | omega | (intros; omega) | (intros; exact And.intro (by assumption) (by omega))) ?_)
    apply_assumption -exfalso -symm
    refine Do.ret ?_
    simp [endQ, rets, ret1, go_sem]
    repeat (refine And.intro (by first | omega | (intros; omega) | (intros; exact And.intro (by assumption) (by omega))) ?_)
    have hi' : i = a.length := by omega
    have e : val (out.set a.length c) = val a + val b := by
      subst hi'
      rw [List.take_of_length_le (Nat.le_refl _), List.take_of_length_le hl] at hv
      have := val_take_set (x := out) (i := a.length) c (by omega)
      rw [List.take_of_length_le (by simp; omega)] at this
      omega
    rw [e]
    exact TLe.refl _
theorem borrow_sub {A B O P x y c : Nat} (hx : x < 18446744073709551616) (hy : y < 18446744073709551616) (hc : c ≤ 1) (h : A + P * c = B + O) : A + P * x + P * 18446744073709551616 * (if x < y + c then 1 else 0) = B + P * y + (O + P * ((x + 18446744073709551616 - y - c) % 18446744073709551616)) := by
  have e : x + 18446744073709551616 * (if x < y + c then 1 else 0) = y + c + (x + 18446744073709551616 - y - c) % 18446744073709551616 := by
    split <;> omega
  have e2 := congrArg (P * ·) e
  simp only [Nat.mul_add] at e2
  rw [Nat.mul_assoc]
  omega
theorem Sub_does {x y : List Nat} (hx : Sh x) (hy : Sh y) (wx : Ws x) (wy : Ws y) (hxy : val y ≤ val x) : Does Tryz.prog G 122 [Wd x, Wd y] (.v (Wn (nat (val x - val y)))) := by
  refine Does.of (nt := 45) (Tryz.func122) rfl rfl rfl (by simp) ?_
  simp only [argTm, PV.ext, Ce.ext]
  rw [← val_norm x, ← val_norm y] at hxy
  have hlx := norm_length x
  have hly := norm_length y
  have nx := norm_ws wx
  have ny := norm_ws wy
  have cx := norm_cn x
  have cy := norm_cn y
  repeat (refine Do.seqk fun _ _ => ?_)
  refine Do.region [0,1,4] true ?_
  simp [go_sem]
  repeat (refine And.intro (by first | omega | (intros; omega) | (intros; exact And.intro (by assumption) (by omega))) ?_)
  apply_assumption -exfalso -symm
  repeat (refine Do.seqk fun _ _ => ?_)
  refine Do.region [0,1,4] true ?_
  simp [go_sem]
  repeat (refine And.intro (by first | omega | (intros; omega) | (intros; exact And.intro (by assumption) (by omega))) ?_)
  refine DoL.call true 0 rfl rfl rfl rfl (by first | exact trivial | omega | (simp; done) | (simp; omega)) (view_does hx) rfl (by first | exact .inl rfl | exact .inr rfl) rfl ?_
  simp [go_sem]
  repeat (refine And.intro (by first | omega | (intros; omega) | (intros; exact And.intro (by assumption) (by omega))) ?_)
  refine DoL.call true 0 rfl rfl rfl rfl (by first | exact trivial | omega | (simp; done) | (simp; omega)) (view_does hy) rfl (by first | exact .inl rfl | exact .inr rfl) rfl ?_
  simp [go_sem]
  repeat (refine And.intro (by first | omega | (intros; omega) | (intros; exact And.intro (by assumption) (by omega))) ?_)
  apply_assumption -exfalso -symm
  rw [← val_norm x, ← val_norm y]
  generalize norm x = a at *
  generalize norm y = b at *
  have hlen : b.length ≤ a.length := by
    apply Classical.byContradiction
    intro hn
    have := val_lt_len nx cy (by omega)
    omega
  repeat (refine Do.seqk fun _ _ => ?_)
  refine Do.region [0,1,4,5] true ?_
  simp [go_sem]
  repeat (refine And.intro (by first | omega | (intros; omega) | (intros; exact And.intro (by assumption) (by omega))) ?_)
  apply_assumption -exfalso -symm
  repeat (refine Do.seqk fun _ _ => ?_)
  refine Do.region [0,1,4,5,6] true ?_
  simp [go_sem]
  repeat (refine And.intro (by first | omega | (intros; omega) | (intros; exact And.intro (by assumption) (by omega))) ?_)
  apply_assumption -exfalso -symm
  repeat (refine Do.seqk fun _ _ => ?_)
  refine Do.region [0,1,4,5,6,16,17,18] true ?_
  simp [go_sem]
  repeat (refine And.intro (by first | omega | (intros; omega) | (intros; exact And.intro (by assumption) (by omega))) ?_)
  apply_assumption -exfalso -symm
  repeat (refine Do.seqk fun _ _ => ?_)
  refine Do.block ?_
  refine Do.loop (fun s : Nat × Nat × List Nat => ⟨[(0, .v (.c (.w false a))), (1, .v (.c (.w false b))), (4, .v (.c .z)), (5, .v (.c (.r 202 a.length))), (6, .v (.c (.n s.2.1))), (16, .v (.c (.w false a))), (17, .int .i64 a.length), (18, .int .i64 s.1)], [(202, .wr s.2.2)]⟩)
    (fun s => s.1 ≤ a.length ∧ s.2.1 ≤ 1 ∧ s.2.2.length = a.length ∧ Ws s.2.2 ∧ val (a.take s.1) + 18446744073709551616 ^ s.1 * s.2.1 = val (b.take s.1) + val (s.2.2.take s.1))
    (fun s => a.length - s.1) (0, 0, List.replicate a.length 0) (St.le_of (by simp [keep]) (by simp [keep])) ⟨Nat.zero_le _, Nat.zero_le _, by simp, Ws.zeros _, rfl⟩ ?_
  rintro ⟨i, c, out⟩ ⟨hi, hc, ho, hw, hv⟩
  simp only [] at hi hc ho hw hv ⊢
  repeat (refine Do.seqk fun _ _ => ?_)
  refine Do.region [0,1,4,5,6,16,17,18,19] true ?_
  simp [go_sem]
  repeat (refine And.intro (by first | omega | (intros; omega) | (intros; exact And.intro (by assumption) (by omega))) ?_)
  apply_assumption -exfalso -symm
  repeat (refine Do.seqk fun _ _ => ?_)
  refine Do.cond [0,1,4,5,6,16,17,18] rfl (fun h => ?_) (fun h => ?_) <;> simp [go_sem] at h ⊢
  · refine Do.skip ?_
    simp [go_sem]
    apply_assumption -exfalso -symm
    refine Do.seqk fun K2 hK2 => ?_
    repeat (refine Do.seqk fun _ _ => ?_)
    refine Do.block ?_
    repeat (refine Do.seqk fun _ _ => ?_)
    refine Do.region [0,1,4,5,6,7,16,17,18] true ?_
    simp [go_sem]
    repeat (refine And.intro (by first | omega | (intros; omega) | (intros; exact And.intro (by assumption) (by omega))) ?_)
    apply_assumption -exfalso -symm
    repeat (refine Do.seqk fun _ _ => ?_)
    refine Do.region [0,1,4,5,6,7,8,16,17,18] true ?_
    simp [go_sem]
    repeat (refine And.intro (by first | omega | (intros; omega) | (intros; exact And.intro (by assumption) (by omega))) ?_)
    apply_assumption -exfalso -symm
    refine Do.seqk fun K hK => ?_
    repeat (refine Do.seqk fun _ _ => ?_)
    refine Do.region [0,1,4,5,6,7,8,16,17,18,24] true ?_
    simp [go_sem]
    repeat (refine And.intro (by first | omega | (intros; omega) | (intros; exact And.intro (by assumption) (by omega))) ?_)
    apply_assumption -exfalso -symm
    suffices main : ∀ w : Nat, w = b[i]?.getD 0 → K ⟨[(0, .v (.c (.w false a))), (1, .v (.c (.w false b))), (4, .v (.c .z)), (5, .v (.c (.r 202 a.length))), (6, .v (.c (.n c))), (7, .int .i64 i), (8, .v (.c (.n w))), (16, .v (.c (.w false a))), (17, .int .i64 a.length), (18, .int .i64 i)], [(202, .wr out)]⟩ by
      repeat (refine Do.seqk fun _ _ => ?_)
      refine Do.cond [0,1,4,5,6,7,8,16,17,18] rfl (fun h2 => ?_) (fun h2 => ?_) <;> simp [go_sem] at h2 ⊢
      · repeat (refine Do.seqk fun _ _ => ?_)
        refine Do.region [0,1,4,5,6,7,8,16,17,18] true ?_
        simp [go_sem]
        repeat (refine And.intro (by first | omega | (intros; omega) | (intros; exact And.intro (by assumption) (by omega))) ?_)
        exact main _ rfl
      · refine Do.skip ?_
        simp [go_sem]
        exact main 0 (by rw [List.getElem?_eq_none (by omega)]; rfl)
    intro w hwb
    apply hK
    repeat (refine Do.seqk fun _ _ => ?_)
    refine Do.region [0,1,4,5,6,16,17,18] true ?_
    simp [go_sem]
    repeat (refine And.intro (by first | omega | (intros; omega) | (intros; exact And.intro (by assumption) (by omega))) ?_)
    refine DoL.call true 0 rfl rfl rfl rfl (by first | exact trivial | omega | (simp; done) | (simp; omega)) (Sub64_does hc) rfl (by first | exact .inl rfl | exact .inr rfl) rfl ?_
    simp [go_sem]
    repeat (refine And.intro (by first | omega | (intros; omega) | (intros; exact And.intro (by assumption) (by omega))) ?_)
    apply hK2
    repeat (refine Do.seqk fun _ _ => ?_)
    refine Do.region [0,1,4,5,6,16,17,18] true ?_
    simp [go_sem]
    repeat (refine And.intro (by first | omega | (intros; omega) | (intros; exact And.intro (by assumption) (by omega))) ?_)
    have ha := nx.get i
    have hb := ny.get i
    refine ⟨(i + 1, (if a[i]?.getD 0 < w + c then 1 else 0), out.set i ((a[i]?.getD 0 + 18446744073709551616 - w - c) % 18446744073709551616)), St.le_of rfl rfl, ⟨by simp; omega, by simp only []; split <;> omega, by simp [ho], hw.set (Nat.mod_lt _ (by omega)), ?_⟩, by simp; omega⟩
    simp only []
    rw [val_take_succ, val_take_succ b, val_take_set _ (by omega), Nat.pow_succ, ← hwb]
    exact borrow_sub ha (hwb ▸ hb) hc hv
  · refine Do.exit ?_
    simp [go_sem]
    apply_assumption -exfalso -symm
    repeat (refine Do.seqk fun _ _ => ?_)
    refine Do.region [4] true ?_
    simp [go_sem]
    repeat (refine And.intro (by first | omega | (intros; omega) | (intros; exact And.intro (by assumption) (by omega))) ?_)
    refine DoL.call true 0 rfl rfl rfl rfl (by first | exact trivial | omega | (simp; done) | (simp; omega)) (Trim_does (x := out) (by simp; omega) hw) rfl (by first | exact .inl rfl | exact .inr rfl) rfl ?_
    simp [go_sem]
    repeat (refine And.intro (by first | omega | (intros; omega) | (intros; exact And.intro (by assumption) (by omega))) ?_)
    apply_assumption -exfalso -symm
    refine Do.ret ?_
    simp [endQ, rets, ret1, go_sem]
    repeat (refine And.intro (by first | omega | (intros; omega) | (intros; exact And.intro (by assumption) (by omega))) ?_)
    have hi' : i = a.length := by omega
    have e : val out = val a - val b := by
      subst hi'
      rw [List.take_of_length_le (Nat.le_refl _), List.take_of_length_le hlen, List.take_of_length_le (by omega)] at hv
      have h1 := val_lt hw
      rw [ho] at h1
      rcases Nat.lt_or_ge c 1 with h2 | h2
      · have : c = 0 := by omega
        subst this; omega
      · have : c = 1 := by omega
        subst this; omega
    rw [e]
    exact TLe.refl _
end Go.Proofs.YtbhokdhkfodpfaaGreatDoor
/- Shifts of words. No condition. -/
namespace Go.Proofs.YtbhokdhkfodpfaaGreatDoor
set_option linter.unusedVariables false
set_option linter.unusedSimpArgs false
variable {G : Gl}
set_option maxHeartbeats 1000000
theorem set_zero {x : List Nat} {j : Nat} (h : x[j]?.getD 0 = 0) : x.set j 0 = x := by
  refine List.ext_getElem? fun k => ?_
  rw [List.getElem?_set]
  split
  · rename_i e; subst e
    split
    · rename_i hj; rw [List.getElem?_eq_getElem hj] at h ⊢; simp at h; rw [h]
    · rename_i hj; rw [List.getElem?_eq_none (by omega)]
  · rfl
theorem or_add {a b r : Nat} (ha : a < 2 ^ r) (hb : b % 2 ^ r = 0) : a ||| b = a + b := by
  have e : b = 2 ^ r * (b / 2 ^ r) := by have := Nat.mod_add_div b (2 ^ r); omega
  rw [e, Nat.or_comm, ← Nat.two_pow_add_eq_or_of_lt ha, Nat.add_comm]
theorem shl_low {w r : Nat} (hr : r ≤ 64) : w * 2 ^ r % 18446744073709551616 % 2 ^ r = 0 := by
  rw [B64, Nat.mod_mod_of_dvd _ (Nat.pow_dvd_pow 2 hr)]; simp
theorem shl_high {w r : Nat} (hr : r ≤ 64) : w * 2 ^ r / 18446744073709551616 = w / 2 ^ (64 - r) := by
  rw [B64, show (2 : Nat) ^ 64 = 2 ^ (64 - r) * 2 ^ r by rw [← Nat.pow_add]; congr 1; omega, Nat.mul_div_mul_right _ _ (Nat.pow_pos (by omega))]
theorem shl_step {A O N P S o w R : Nat} (h1 : O + P * o = A * S) (h2 : P = N * (P / N)) (h3 : N * S = P * R) :
    O + P * (o + w * R % 18446744073709551616) + P * 18446744073709551616 * (w * R / 18446744073709551616) = (A + N * w) * S := by
  have e := Nat.mod_add_div (w * R) 18446744073709551616
  have : P * (w * R % 18446744073709551616) + P * 18446744073709551616 * (w * R / 18446744073709551616) = N * w * S := by
    rw [Nat.mul_assoc P, ← Nat.mul_add, e, Nat.mul_right_comm N, h3, Nat.mul_assoc, Nat.mul_comm w]
  rw [Nat.add_mul, ← this, ← h1, Nat.mul_add]
  omega
theorem Shl_does {x : List Nat} (hx : Sh x) (wx : Ws x) {s : Nat} (hs : x.length + s < 1099511627775) : Does Tryz.prog G 101 [Wd x, .c (.i .i64 s)] (.v (Wn (nat (val x * 2 ^ s)))) := by
  refine Does.of (nt := 58) (Tryz.func101) rfl rfl rfl (by simp) ?_
  simp only [argTm, PV.ext, Ce.ext]
  have hlx := norm_length x
  have nx := norm_ws wx
  repeat (refine Do.seqk fun _ _ => ?_)
  refine Do.region [0,1,4] true ?_
  simp [go_sem]
  repeat (refine And.intro (by first | omega | (intros; omega) | (intros; exact And.intro (by assumption) (by omega))) ?_)
  apply_assumption -exfalso -symm
  repeat (refine Do.seqk fun _ _ => ?_)
  refine Do.region [0,1,4] true ?_
  simp [go_sem]
  repeat (refine And.intro (by first | omega | (intros; omega) | (intros; exact And.intro (by assumption) (by omega))) ?_)
  refine DoL.call true 0 rfl rfl rfl rfl (by first | exact trivial | omega | (simp; done) | (simp; omega)) (view_does hx) rfl (by first | exact .inl rfl | exact .inr rfl) rfl ?_
  simp [go_sem]
  repeat (refine And.intro (by first | omega | (intros; omega) | (intros; exact And.intro (by assumption) (by omega))) ?_)
  apply_assumption -exfalso -symm
  rw [← val_norm x]
  generalize norm x = a at *
  repeat (refine Do.seqk fun _ _ => ?_)
  refine Do.region [0,1,4,12] true ?_
  simp [go_sem]
  repeat (refine And.intro (by first | omega | (intros; omega) | (intros; exact And.intro (by assumption) (by omega))) ?_)
  apply_assumption -exfalso -symm
  repeat (refine Do.seqk fun _ _ => ?_)
  refine Do.cond [0,1,4] rfl (fun h => ?_) (fun h => ?_) <;> simp [go_sem] at h ⊢
  · repeat (refine Do.seqk fun _ _ => ?_)
    refine Do.region [4] true ?_
    simp [go_sem]
    repeat (refine And.intro (by first | omega | (intros; omega) | (intros; exact And.intro (by assumption) (by omega))) ?_)
    apply_assumption -exfalso -symm
    refine Do.ret ?_
    simp [endQ, rets, ret1, go_sem]
    repeat (refine And.intro (by first | omega | (intros; omega) | (intros; exact And.intro (by assumption) (by omega))) ?_)
    subst h
    rw [show nat (val [] * 2 ^ s) = [] by simp [val, nat]]
    exact PLe.z _
  · refine Do.skip ?_
    simp [go_sem]
    apply_assumption -exfalso -symm
    have e0 : ((a.length : Int) + (s : Int) / 64 + 1).toNat = a.length + s / 64 + 1 := by omega
    repeat (refine Do.seqk fun _ _ => ?_)
    refine Do.region [0,1,4,5] true ?_
    simp [go_sem]
    repeat (refine And.intro (by first | omega | (intros; omega) | (intros; exact And.intro (by assumption) (by omega))) ?_)
    apply_assumption -exfalso -symm
    repeat (refine Do.seqk fun _ _ => ?_)
    refine Do.region [0,1,4,5,20,21,22] true ?_
    simp [go_sem]
    repeat (refine And.intro (by first | omega | (intros; omega) | (intros; exact And.intro (by assumption) (by omega))) ?_)
    apply_assumption -exfalso -symm
    generalize hq : s / 64 = q at *
    have e1 : (s : Int) / 64 = q := by omega
    have e2 : ((s : Int) % 64) = ((s % 64 : Nat) : Int) := by omega
    have e3 : ((a.length : Int) + q + 1).toNat = a.length + q + 1 := by omega
    repeat (refine Do.seqk fun _ _ => ?_)
    refine Do.block ?_
    refine Do.loop (fun z : Nat × List Nat => ⟨[(0, .v (.c (.w false a))), (1, .int .i64 s), (4, .v (.c .z)), (5, .v (.c (.r 406 (a.length + q + 1)))), (20, .v (.c (.w false a))), (21, .int .i64 a.length), (22, .int .i64 z.1)], [(406, .wr z.2)]⟩)
      (fun z => z.1 ≤ a.length ∧ z.2.length = a.length + q + 1 ∧ Ws z.2 ∧ (∀ j, z.1 + q < j → z.2[j]?.getD 0 = 0) ∧ val (z.2.take (z.1 + q + 1)) = val (a.take z.1) * 2 ^ s)
      (fun z => a.length - z.1) (0, List.replicate (a.length + q + 1) 0) (St.le_of (by simp [keep, e1, e3]) (by simp [keep, e1, e3])) ⟨Nat.zero_le _, by simp, Ws.zeros _, fun j hj => by by_cases h : j < a.length + q + 1 <;> simp [List.getElem?_replicate, h], by simp [List.take_replicate, val_zeros, val]⟩ ?_
    rintro ⟨i, out⟩ ⟨hi, ho, hw, hz, hv⟩
    simp only [] at hi ho hw hz hv ⊢
    repeat (refine Do.seqk fun _ _ => ?_)
    refine Do.region [0,1,4,5,20,21,22,23] true ?_
    simp [go_sem]
    repeat (refine And.intro (by first | omega | (intros; omega) | (intros; exact And.intro (by assumption) (by omega))) ?_)
    apply_assumption -exfalso -symm
    repeat (refine Do.seqk fun _ _ => ?_)
    refine Do.cond [0,1,4,5,20,21,22] rfl (fun h => ?_) (fun h => ?_) <;> simp [go_sem] at h ⊢
    · refine Do.skip ?_
      simp [go_sem]
      apply_assumption -exfalso -symm
      refine Do.seqk fun K2 hK2 => ?_
      repeat (refine Do.seqk fun _ _ => ?_)
      refine Do.block ?_
      repeat (refine Do.seqk fun _ _ => ?_)
      refine Do.region [0,1,4,5,6,7,20,21,22] true ?_
      simp [go_sem]
      repeat (refine And.intro (by first | omega | (intros; omega) | (intros; exact And.intro (by assumption) (by omega))) ?_)
      apply_assumption -exfalso -symm
      repeat (refine Do.seqk fun _ _ => ?_)
      refine Do.draw [0,1,4,5,6,7,20,21,22] true (by kernel_rfl) ?_
      simp [go_sem]
      repeat (refine And.intro (by first | omega | (intros; omega) | (intros; exact And.intro (by assumption) (by omega))) ?_)
      refine ⟨⟨hw.get _, Nat.mod_lt _ (by decide)⟩, ⟨ho, by omega, by omega⟩, ⟨ho, by omega⟩, by kernel_rfl, ?_⟩
      apply_assumption -exfalso -symm
      rw [show ((i : Int) + (s : Int) / 64).toNat = i + q by omega, show ((s : Int) % 64).toNat = s % 64 by omega]
      have hS : 18446744073709551616 ^ i * 2 ^ s = 18446744073709551616 ^ (i + q) * 2 ^ (s % 64) := by
        rw [B64_pow, B64_pow, ← Nat.pow_add, ← Nat.pow_add]; congr 1; omega
      have hv2 := hv
      rw [val_take_succ] at hv2
      have hlow : out[i + q]?.getD 0 < 2 ^ (s % 64) := by
        have h1 := val_lt (nx.take i)
        rw [List.length_take, Nat.min_eq_left hi] at h1
        have h2 : val (a.take i) * 2 ^ s < 18446744073709551616 ^ i * 2 ^ s := Nat.mul_lt_mul_of_pos_right h1 (Nat.pow_pos (by omega))
        rw [hS, ← hv2] at h2
        exact Nat.lt_of_mul_lt_mul_left (Nat.lt_of_le_of_lt (Nat.le_add_left _ _) h2)
      rw [or_add hlow (shl_low (by omega))]
      have hsum : out[i + q]?.getD 0 + a[i]?.getD 0 * 2 ^ (s % 64) % M64 < 18446744073709551616 := by
        rw [← or_add hlow (shl_low (by omega)), B64]
        exact Nat.or_lt_two_pow (hw.get _) (Nat.mod_lt _ (by decide))
      generalize ho1 : out.set (i + q) (out[i + q]?.getD 0 + a[i]?.getD 0 * 2 ^ (s % 64) % M64) = out1
      have hl1 : out1.length = a.length + q + 1 := by rw [← ho1]; simp [ho]
      have hw1 : Ws out1 := by rw [← ho1]; exact hw.set hsum
      have hz1 : ∀ j, i + q < j → out1[j]?.getD 0 = 0 := fun j hj => by rw [← ho1, List.getElem?_set_ne (by omega)]; exact hz j hj
      repeat (refine Do.seqk fun _ _ => ?_)
      refine Do.region [0,1,4,5,6,7,20,21,22,42] true ?_
      simp [go_sem]
      repeat (refine And.intro (by first | omega | (intros; omega) | (intros; exact And.intro (by assumption) (by omega))) ?_)
      apply_assumption -exfalso -symm
      have hwi := nx.get i
      have hhi : a[i]?.getD 0 * 2 ^ (s % 64) / 18446744073709551616 < 18446744073709551616 := by
        rw [shl_high (by omega)]; exact Nat.lt_of_le_of_lt (Nat.div_le_self _ _) hwi
      suffices main : ∀ o2, o2 = out1.set (i + q + 1) (a[i]?.getD 0 * 2 ^ (s % 64) / 18446744073709551616) → K2 ⟨[(0, .v (.c (.w false a))), (1, .int .i64 s), (4, .v (.c .z)), (5, .v (.c (.r 406 (a.length + q + 1)))), (6, .int .i64 i), (7, .v (.c (.n (a[i]?.getD 0)))), (20, .v (.c (.w false a))), (21, .int .i64 a.length), (22, .int .i64 i)], [(406, .wr o2)]⟩ by
        repeat (refine Do.seqk fun _ _ => ?_)
        refine Do.cond [0,1,4,5,6,7,20,21,22] rfl (fun h2 => ?_) (fun h2 => ?_) <;> simp [go_sem] at h2 ⊢
        · repeat (refine Do.seqk fun _ _ => ?_)
          refine Do.region [0,1,4,5,6,7,20,21,22] true ?_
          simp [go_sem]
          repeat (refine And.intro (by first | omega | (intros; omega) | (intros; exact And.intro (by assumption) (by omega))) ?_)
          refine ⟨⟨by omega, hwi⟩, ⟨hl1, by omega, by omega⟩, ⟨hl1, by omega⟩, main _ ?_⟩
          rw [shl_high (by omega)]
          congr 1
          · omega
          · congr 2; omega
        · refine Do.skip ?_
          simp [go_sem]
          refine main _ ?_
          have h4 : s % 64 = 0 := by omega
          rw [h4, Nat.pow_zero, Nat.mul_one, Nat.div_eq_of_lt hwi, set_zero (hz1 _ (by omega))]
      intro o2 he
      apply hK2
      repeat (refine Do.seqk fun _ _ => ?_)
      refine Do.region [0,1,4,5,20,21,22] true ?_
      simp [go_sem]
      repeat (refine And.intro (by first | omega | (intros; omega) | (intros; exact And.intro (by assumption) (by omega))) ?_)
      refine ⟨(i + 1, o2), St.le_of rfl rfl, ⟨by simp; omega, by simp [he, hl1], by subst he; exact hw1.set hhi, fun j hj => ?_, ?_⟩, by simp; omega⟩
      · simp only [] at hj ⊢
        rw [he, List.getElem?_set_ne (by omega)]; exact hz1 j (by omega)
      · simp only []
        rw [show i + 1 + q + 1 = i + q + 1 + 1 by omega, he, val_take_set _ (by omega), ← ho1, val_take_set _ (by omega), val_take_succ a, Nat.pow_succ 18446744073709551616 (i + q)]
        exact shl_step hv2 (by rw [Nat.mul_div_cancel']; rw [Nat.pow_add]; exact Nat.dvd_mul_right _ _) hS
    · refine Do.exit ?_
      simp [go_sem]
      apply_assumption -exfalso -symm
      repeat (refine Do.seqk fun _ _ => ?_)
      refine Do.region [4] true ?_
      simp [go_sem]
      repeat (refine And.intro (by first | omega | (intros; omega) | (intros; exact And.intro (by assumption) (by omega))) ?_)
      refine DoL.call true 0 rfl rfl rfl rfl (by first | exact trivial | omega | (simp; done) | (simp; omega)) (Trim_does (x := out) (by simp; omega) hw) rfl (by first | exact .inl rfl | exact .inr rfl) rfl ?_
      simp [go_sem]
      repeat (refine And.intro (by first | omega | (intros; omega) | (intros; exact And.intro (by assumption) (by omega))) ?_)
      apply_assumption -exfalso -symm
      refine Do.ret ?_
      simp [endQ, rets, ret1, go_sem]
      repeat (refine And.intro (by first | omega | (intros; omega) | (intros; exact And.intro (by assumption) (by omega))) ?_)
      have hi' : i = a.length := by omega
      subst hi'
      rw [List.take_of_length_le (by omega), List.take_of_length_le (Nat.le_refl _)] at hv
      rw [hv]
      exact TLe.refl _
end Go.Proofs.YtbhokdhkfodpfaaGreatDoor
/- Shifts of words to the right. No condition. -/
namespace Go.Proofs.YtbhokdhkfodpfaaGreatDoor
set_option linter.unusedVariables false
set_option linter.unusedSimpArgs false
variable {G : Gl}
set_option maxHeartbeats 1000000
theorem shr_word {u v r : Nat} (hr : r < 64) (hu : u < 18446744073709551616) : u / 2 ^ r + v * 2 ^ (64 - r) % 18446744073709551616 < 18446744073709551616 ∧ u / 2 ^ r ||| v * 2 ^ (64 - r) % 18446744073709551616 = u / 2 ^ r + v * 2 ^ (64 - r) % 18446744073709551616 ∧
    (u / 2 ^ r + v * 2 ^ (64 - r) % 18446744073709551616) * 2 ^ r + u % 2 ^ r = u + 18446744073709551616 * (v % 2 ^ r) := by
  have h1 : u / 2 ^ r < 2 ^ (64 - r) := by
    rw [Nat.div_lt_iff_lt_mul (Nat.pow_pos (by omega)), ← Nat.pow_add, show 64 - r + r = 64 by omega]
    exact hu
  have h2 : v * 2 ^ (64 - r) % 18446744073709551616 = v % 2 ^ r * 2 ^ (64 - r) := by
    rw [B64, show (2 : Nat) ^ 64 = 2 ^ r * 2 ^ (64 - r) by rw [← Nat.pow_add]; congr 1; omega, Nat.mul_mod_mul_right]
  have h3 := or_add (a := u / 2 ^ r) (b := v * 2 ^ (64 - r) % 18446744073709551616) h1 (by rw [h2]; exact Nat.mul_mod_left _ _)
  refine ⟨?_, h3, ?_⟩
  · rw [← h3, B64]
    exact Nat.or_lt_two_pow (Nat.lt_of_lt_of_le h1 (Nat.pow_le_pow_right (by omega) (by omega))) (Nat.mod_lt _ (by decide))
  · rw [h2, Nat.add_mul, Nat.mul_assoc, ← Nat.pow_add, show 64 - r + r = 64 by omega, ← B64, Nat.mul_comm (v % 2 ^ r)]
    have := Nat.div_add_mod u (2 ^ r)
    rw [Nat.mul_comm] at this
    omega
theorem shr_step {A O P w u v R c : Nat} (h : O * R + c = A + P * (u % R)) (hw : w * R + u % R = u + 18446744073709551616 * (v % R)) : (O + P * w) * R + c = A + P * u + P * 18446744073709551616 * (v % R) := by
  have e := congrArg (P * ·) hw
  simp only [Nat.mul_add] at e
  rw [Nat.add_mul, Nat.mul_assoc P w, Nat.mul_assoc P 18446744073709551616]
  omega
theorem Shr_does {x : List Nat} (hx : Sh x) (wx : Ws x) {s : Nat} (hs : s < 9223372036854775808) : Does Tryz.prog G 141 [Wd x, .c (.i .i64 s)] (.v (Wn (nat (val x / 2 ^ s)))) := by
  refine Does.of (nt := 64) (Tryz.func141) rfl rfl rfl (by simp) ?_
  simp only [argTm, PV.ext, Ce.ext]
  have hlx := norm_length x
  have nx := norm_ws wx
  repeat (refine Do.seqk fun _ _ => ?_)
  refine Do.region [0,1,4] true ?_
  simp [go_sem]
  repeat (refine And.intro (by first | omega | (intros; omega) | (intros; exact And.intro (by assumption) (by omega))) ?_)
  apply_assumption -exfalso -symm
  repeat (refine Do.seqk fun _ _ => ?_)
  refine Do.region [0,1,4] true ?_
  simp [go_sem]
  repeat (refine And.intro (by first | omega | (intros; omega) | (intros; exact And.intro (by assumption) (by omega))) ?_)
  refine DoL.call true 0 rfl rfl rfl rfl (by first | exact trivial | omega | (simp; done) | (simp; omega)) (view_does hx) rfl (by first | exact .inl rfl | exact .inr rfl) rfl ?_
  simp [go_sem]
  repeat (refine And.intro (by first | omega | (intros; omega) | (intros; exact And.intro (by assumption) (by omega))) ?_)
  apply_assumption -exfalso -symm
  rw [← val_norm x]
  generalize norm x = a at *
  repeat (refine Do.seqk fun _ _ => ?_)
  refine Do.region [0,1,4,13] true ?_
  simp [go_sem]
  repeat (refine And.intro (by first | omega | (intros; omega) | (intros; exact And.intro (by assumption) (by omega))) ?_)
  apply_assumption -exfalso -symm
  repeat (refine Do.seqk fun _ _ => ?_)
  refine Do.cond [0,1,4] rfl (fun h => ?_) (fun h => ?_) <;> simp [go_sem] at h ⊢
  · repeat (refine Do.seqk fun _ _ => ?_)
    refine Do.region [4] true ?_
    simp [go_sem]
    repeat (refine And.intro (by first | omega | (intros; omega) | (intros; exact And.intro (by assumption) (by omega))) ?_)
    apply_assumption -exfalso -symm
    refine Do.ret ?_
    simp [endQ, rets, ret1, go_sem]
    repeat (refine And.intro (by first | omega | (intros; omega) | (intros; exact And.intro (by assumption) (by omega))) ?_)
    have e : val a / 2 ^ s = 0 := Nat.div_eq_of_lt (by
      have := val_lt nx
      rw [B64_pow] at this
      exact Nat.lt_of_lt_of_le this (Nat.pow_le_pow_right (by omega) (by omega)))
    rw [e, show nat 0 = [] by simp [nat]]
    exact PLe.z _
  · refine Do.skip ?_
    simp [go_sem]
    apply_assumption -exfalso -symm
    repeat (refine Do.seqk fun _ _ => ?_)
    refine Do.region [0,1,4] true ?_
    simp [go_sem]
    repeat (refine And.intro (by first | omega | (intros; omega) | (intros; exact And.intro (by assumption) (by omega))) ?_)
    apply_assumption -exfalso -symm
    rw [show ((s : Int) / 64).toNat = s / 64 by omega]
    rw [show List.take (a.length - s / 64) (a.drop (s / 64)) = a.drop (s / 64) from List.take_of_length_le (by simp)]
    have hv0 : val a / 2 ^ s = val (a.drop (s / 64)) / 2 ^ (s % 64) := by
      rw [show 2 ^ s = 2 ^ (64 * (s / 64)) * 2 ^ (s % 64) by rw [← Nat.pow_add]; congr 1; omega, ← Nat.div_div_eq_div_mul, val_shr nx]
    have nb := nx.drop (s / 64)
    have hlb : (a.drop (s / 64)).length ≤ a.length := by simp
    rw [hv0]
    generalize a.drop (s / 64) = b at *
    repeat (refine Do.seqk fun _ _ => ?_)
    refine Do.region [0,1,4,5] true ?_
    simp [go_sem]
    repeat (refine And.intro (by first | omega | (intros; omega) | (intros; exact And.intro (by assumption) (by omega))) ?_)
    apply_assumption -exfalso -symm
    repeat (refine Do.seqk fun _ _ => ?_)
    refine Do.region [0,1,4,5,21,22,23] true ?_
    simp [go_sem]
    repeat (refine And.intro (by first | omega | (intros; omega) | (intros; exact And.intro (by assumption) (by omega))) ?_)
    apply_assumption -exfalso -symm
    repeat (refine Do.seqk fun _ _ => ?_)
    refine Do.block ?_
    refine Do.loop (fun z : Nat × List Nat => ⟨[(0, .v (.c (.w false b))), (1, .int .i64 s), (4, .v (.c .z)), (5, .v (.c (.r 502 b.length))), (21, .v (.c (.w false b))), (22, .int .i64 b.length), (23, .int .i64 z.1)], [(502, .wr z.2)]⟩)
      (fun z => z.1 ≤ b.length ∧ z.2.length = b.length ∧ Ws z.2 ∧ val (z.2.take z.1) * 2 ^ (s % 64) + val b % 2 ^ (s % 64) = val (b.take z.1) + 18446744073709551616 ^ z.1 * (b[z.1]?.getD 0 % 2 ^ (s % 64)))
      (fun z => b.length - z.1) (0, List.replicate b.length 0) (St.le_of (by simp [keep]) (by simp [keep])) ⟨Nat.zero_le _, by simp, Ws.zeros _, ?_⟩ ?_
    · have e := val_drop b 0
      simp only [List.drop_zero] at e
      simp only [List.take_zero, val, Nat.zero_mul, Nat.zero_add, Nat.pow_zero, Nat.one_mul]
      rw [e, show (18446744073709551616 : Nat) = 2 ^ (s % 64) * 2 ^ (64 - s % 64) by rw [← Nat.pow_add, B64]; congr 1; omega, Nat.mul_assoc, Nat.add_mul_mod_self_left]
    rintro ⟨i, out⟩ ⟨hi, ho, hw, hv⟩
    simp only [] at hi ho hw hv ⊢
    repeat (refine Do.seqk fun _ _ => ?_)
    refine Do.region [0,1,4,5,21,22,23,24] true ?_
    simp [go_sem]
    repeat (refine And.intro (by first | omega | (intros; omega) | (intros; exact And.intro (by assumption) (by omega))) ?_)
    apply_assumption -exfalso -symm
    repeat (refine Do.seqk fun _ _ => ?_)
    refine Do.cond [0,1,4,5,21,22,23] rfl (fun h => ?_) (fun h => ?_) <;> simp [go_sem] at h ⊢
    · refine Do.skip ?_
      simp [go_sem]
      apply_assumption -exfalso -symm
      refine Do.seqk fun K2 hK2 => ?_
      repeat (refine Do.seqk fun _ _ => ?_)
      refine Do.block ?_
      repeat (refine Do.seqk fun _ _ => ?_)
      refine Do.region [0,1,4,5,6,21,22,23] true ?_
      simp [go_sem]
      repeat (refine And.intro (by first | omega | (intros; omega) | (intros; exact And.intro (by assumption) (by omega))) ?_)
      apply_assumption -exfalso -symm
      repeat (refine Do.seqk fun _ _ => ?_)
      refine Do.region [0,1,4,5,6,21,22,23] true ?_
      simp [go_sem]
      repeat (refine And.intro (by first | omega | (intros; omega) | (intros; exact And.intro (by assumption) (by omega))) ?_)
      have hwi := nb.get i
      refine ⟨⟨by omega, hwi⟩, ⟨ho, h⟩, ?_⟩
      apply_assumption -exfalso -symm
      rw [show ((s : Int) % 64).toNat = s % 64 by omega]
      obtain ⟨w1, w2, w3⟩ := shr_word (v := b[i + 1]?.getD 0) (r := s % 64) (by omega) hwi
      suffices main : ∀ o2, o2 = out.set i (b[i]?.getD 0 / 2 ^ (s % 64) + b[i + 1]?.getD 0 * 2 ^ (64 - s % 64) % 18446744073709551616) → K2 ⟨[(0, .v (.c (.w false b))), (1, .int .i64 s), (4, .v (.c .z)), (5, .v (.c (.r 502 b.length))), (6, .int .i64 i), (21, .v (.c (.w false b))), (22, .int .i64 b.length), (23, .int .i64 i)], [(502, .wr o2)]⟩ by
        repeat (refine Do.seqk fun _ _ => ?_)
        refine Do.region [0,1,4,5,6,21,22,23,45] true ?_
        simp [go_sem]
        repeat (refine And.intro (by first | omega | (intros; omega) | (intros; exact And.intro (by assumption) (by omega))) ?_)
        apply_assumption -exfalso -symm
        repeat (refine Do.seqk fun _ _ => ?_)
        refine Do.cond [0,1,4,5,6,21,22,23] rfl (fun h2 => ?_) (fun h2 => ?_) <;> simp [go_sem] at h2 ⊢
        · repeat (refine Do.seqk fun _ _ => ?_)
          refine Do.draw [0,1,4,5,6,21,22,23] true (by kernel_rfl) ?_
          simp [go_sem]
          repeat (refine And.intro (by first | omega | (intros; omega) | (intros; exact And.intro (by assumption) (by omega))) ?_)
          have e5 : (out.set i (b[i]?.getD 0 / 2 ^ (s % 64)))[i]?.getD 0 = b[i]?.getD 0 / 2 ^ (s % 64) := by simp [show i < out.length by omega]
          rw [e5, show (64 - (s : Int) % 64).toNat = 64 - s % 64 by omega]
          refine ⟨⟨Nat.lt_of_le_of_lt (Nat.div_le_self _ _) hwi, Nat.mod_lt _ (by decide)⟩, ⟨ho, h⟩, by kernel_rfl, main _ ?_⟩
          rw [← w2]
        · refine Do.skip ?_
          simp [go_sem]
          refine main _ ?_
          have e6 : b[i + 1]?.getD 0 * 2 ^ (64 - s % 64) % 18446744073709551616 = 0 := by
            by_cases h4 : s % 64 = 0
            · rw [h4, show 64 - 0 = 64 by rfl, ← B64]; exact Nat.mul_mod_left _ _
            · rw [List.getElem?_eq_none (by have := h2 (by omega); omega)]; simp
          rw [e6, Nat.add_zero]
      intro o2 he
      apply hK2
      repeat (refine Do.seqk fun _ _ => ?_)
      refine Do.region [0,1,4,5,21,22,23] true ?_
      simp [go_sem]
      repeat (refine And.intro (by first | omega | (intros; omega) | (intros; exact And.intro (by assumption) (by omega))) ?_)
      refine ⟨(i + 1, o2), St.le_of rfl rfl, ⟨by simp; omega, by simp [he, ho], by subst he; exact hw.set w1, ?_⟩, by simp; omega⟩
      simp only []
      rw [he, val_take_set _ (by omega), val_take_succ b, Nat.pow_succ]
      exact shr_step hv w3
    · refine Do.exit ?_
      simp [go_sem]
      apply_assumption -exfalso -symm
      repeat (refine Do.seqk fun _ _ => ?_)
      refine Do.region [4] true ?_
      simp [go_sem]
      repeat (refine And.intro (by first | omega | (intros; omega) | (intros; exact And.intro (by assumption) (by omega))) ?_)
      refine DoL.call true 0 rfl rfl rfl rfl (by first | exact trivial | omega | (simp; done) | (simp; omega)) (Trim_does (x := out) (by simp; omega) hw) rfl (by first | exact .inl rfl | exact .inr rfl) rfl ?_
      simp [go_sem]
      repeat (refine And.intro (by first | omega | (intros; omega) | (intros; exact And.intro (by assumption) (by omega))) ?_)
      apply_assumption -exfalso -symm
      refine Do.ret ?_
      simp [endQ, rets, ret1, go_sem]
      repeat (refine And.intro (by first | omega | (intros; omega) | (intros; exact And.intro (by assumption) (by omega))) ?_)
      have hi' : i = b.length := by omega
      subst hi'
      rw [List.take_of_length_le (by omega), List.take_of_length_le (Nat.le_refl _), List.getElem?_eq_none (Nat.le_refl _)] at hv
      simp only [Option.getD_none, Nat.zero_mod, Nat.mul_zero, Nat.add_zero] at hv
      have e := Nat.div_add_mod (val b) (2 ^ (s % 64))
      have e2 : val out = val b / 2 ^ (s % 64) := Nat.eq_of_mul_eq_mul_right (Nat.pow_pos (n := s % 64) (show 0 < 2 by omega)) (by rw [Nat.mul_comm (val b / _)]; omega)
      rw [e2]
      exact TLe.refl _
end Go.Proofs.YtbhokdhkfodpfaaGreatDoor
/- The functions of package format on pure values. No condition. -/
namespace Go.Proofs.YtbhokdhkfodpfaaGreatDoor
set_option linter.unusedVariables false
set_option linter.unusedSimpArgs false
variable {G : Gl}
set_option maxHeartbeats 1000000
/-- A format, a float, as they come in. -/
abbrev Fm (e p : Int) : PV := .a [.i .i64 e, .i .i64 p]
abbrev Fl (k : Int) (n : Bool) (e : Int) (m : List Nat) : PV := .a [.i .i64 k, .b n, .i .i64 e, .w false m]
/-- What a whole number of the machine is. -/
abbrev I64 (x : Int) : Prop := -9223372036854775808 ≤ x ∧ x ≤ 9223372036854775807
def fmOk (e p : Int) : Bool := decide (2 ≤ e) && decide (e ≤ 15) && decide (2 ≤ p) && decide (p ≤ 256)
theorem ret_i {k : IntKind} {v w : Int} (h : v = w) : TLe (tvOf [PV.c (Ce.i k v)]) (TV.int k w) := h ▸ TLe.refl _
theorem ret_b {v w : Bool} (h : v = w) : TLe (tvOf [PV.c (Ce.b v)]) (TV.v (PV.c (Ce.b w))) := h ▸ TLe.refl _
theorem Check_does {e p : Int} : Does Tryz.prog G 94 [Fm e p] (.v (.c (.i .i64 (if fmOk e p then 0 else 150)))) := by
  refine Does.of (nt := 21) (Tryz.func94) rfl rfl rfl (by simp) ?_
  simp only [argTm, PV.ext, Ce.ext]
  repeat (refine Do.seqk fun _ _ => ?_)
  refine Do.region [1,2] true ?_
  simp [go_sem]
  repeat (refine And.intro (by first | omega | (intros; omega) | (intros; exact And.intro (by assumption) (by omega))) ?_)
  apply_assumption -exfalso -symm
  repeat (refine Do.seqk fun _ _ => ?_)
  refine Do.region [1,2,20] true ?_
  simp [go_sem]
  repeat (refine And.intro (by first | omega | (intros; omega) | (intros; exact And.intro (by assumption) (by omega))) ?_)
  apply_assumption -exfalso -symm
  repeat (refine Do.seqk fun _ _ => ?_)
  refine Do.cond [1,2] rfl (fun h => ?_) (fun h => ?_) <;> simp [go_sem] at h ⊢
  · repeat (refine Do.seqk fun _ _ => ?_)
    refine Do.region [2] true ?_
    simp [go_sem]
    repeat (refine And.intro (by first | omega | (intros; omega) | (intros; exact And.intro (by assumption) (by omega))) ?_)
    apply_assumption -exfalso -symm
    refine Do.ret ?_
    simp [endQ, rets, ret1, go_sem]
    repeat (refine And.intro (by first | omega | (intros; omega) | (intros; exact And.intro (by assumption) (by omega))) ?_)
    exact ret_i (by rw [if_neg]; simp [fmOk]; omega)
  · refine Do.skip ?_
    simp [go_sem]
    apply_assumption -exfalso -symm
    repeat (refine Do.seqk fun _ _ => ?_)
    refine Do.region [2] true ?_
    simp [go_sem]
    repeat (refine And.intro (by first | omega | (intros; omega) | (intros; exact And.intro (by assumption) (by omega))) ?_)
    apply_assumption -exfalso -symm
    refine Do.ret ?_
    simp [endQ, rets, ret1, go_sem]
    repeat (refine And.intro (by first | omega | (intros; omega) | (intros; exact And.intro (by assumption) (by omega))) ?_)
    exact ret_i (by rw [if_pos]; simp [fmOk]; omega)
theorem large_does {k : Int} {n : Bool} {e : Int} {m : List Nat} (hm : Sh m) : Does Tryz.prog G 93 [Fl k n e m] (.v (.c (.b (decide (4096 < (m.length : Int)))))) := by
  refine Does.of (nt := 7) (Tryz.func93) rfl rfl rfl (by simp) ?_
  simp only [argTm, PV.ext, Ce.ext]
  repeat (refine Do.seqk fun _ _ => ?_)
  refine Do.region [1,2] true ?_
  simp [go_sem]
  repeat (refine And.intro (by first | omega | (intros; omega) | (intros; exact And.intro (by assumption) (by omega))) ?_)
  apply_assumption -exfalso -symm
  repeat (refine Do.seqk fun _ _ => ?_)
  refine Do.region [2] true ?_
  simp [go_sem]
  repeat (refine And.intro (by first | omega | (intros; omega) | (intros; exact And.intro (by assumption) (by omega))) ?_)
  apply_assumption -exfalso -symm
  refine Do.ret ?_
  simp [endQ, rets, ret1, go_sem]
  repeat (refine And.intro (by first | omega | (intros; omega) | (intros; exact And.intro (by assumption) (by omega))) ?_)
  exact TLe.refl _
/-- The greatest exponent. -/
def gOfE (e : Int) : Int := 2 ^ (e.toNat - 1) - 1
theorem fmOk_spec {e p : Int} (h : fmOk e p = true) : 2 ≤ e ∧ e ≤ 15 ∧ 2 ≤ p ∧ p ≤ 256 := by
  simp [fmOk] at h; omega
theorem gOfE_le {e : Int} (h1 : 2 ≤ e) (h2 : e ≤ 15) : 1 ≤ gOfE e ∧ gOfE e ≤ 16383 := by
  unfold gOfE
  obtain ⟨k, rfl⟩ : ∃ k : Nat, e = k + 1 := ⟨(e - 1).toNat, by omega⟩
  rw [show ((k : Int) + 1).toNat - 1 = k by omega]
  have : k = 1 ∨ k = 2 ∨ k = 3 ∨ k = 4 ∨ k = 5 ∨ k = 6 ∨ k = 7 ∨ k = 8 ∨ k = 9 ∨ k = 10 ∨ k = 11 ∨ k = 12 ∨ k = 13 ∨ k = 14 := by omega
  rcases this with h | h | h | h | h | h | h | h | h | h | h | h | h | h <;> subst h <;> decide
theorem Range_does {e p : Int} (h : fmOk e p = true) : Does Tryz.prog G 125 [Fm e p] (.t [.c (.i .i64 (1 - gOfE e)), .c (.i .i64 (gOfE e)), .c (.i .i64 (1 - gOfE e - (p - 1))), .c (.i .i64 0)]) := by
  refine Does.of (nt := 25) (Tryz.func125) rfl rfl rfl (by simp) ?_
  simp only [argTm, PV.ext, Ce.ext]
  obtain ⟨b1, b2, b3, b4⟩ := fmOk_spec h
  obtain ⟨b5, b6⟩ := gOfE_le b1 b2
  repeat (refine Do.seqk fun _ _ => ?_)
  refine Do.region [1,2,3,4,5] true ?_
  simp [go_sem]
  repeat (refine And.intro (by first | omega | (intros; omega) | (intros; exact And.intro (by assumption) (by omega))) ?_)
  apply_assumption -exfalso -symm
  repeat (refine Do.seqk fun _ _ => ?_)
  refine Do.region [1,2,3,4,5] true ?_
  simp [go_sem]
  repeat (refine And.intro (by first | omega | (intros; omega) | (intros; exact And.intro (by assumption) (by omega))) ?_)
  refine DoL.call true 0 rfl rfl rfl rfl (by first | exact trivial | omega | (simp; done) | (simp; omega)) (Check_does) rfl (by first | exact .inl rfl | exact .inr rfl) rfl ?_
  simp [go_sem]
  repeat (refine And.intro (by first | omega | (intros; omega) | (intros; exact And.intro (by assumption) (by omega))) ?_)
  rw [h]
  apply_assumption -exfalso -symm
  repeat (refine Do.seqk fun _ _ => ?_)
  refine Do.region [1,2,3,4,5,9] true ?_
  simp [go_sem]
  repeat (refine And.intro (by first | omega | (intros; omega) | (intros; exact And.intro (by assumption) (by omega))) ?_)
  apply_assumption -exfalso -symm
  repeat (refine Do.seqk fun _ _ => ?_)
  refine Do.cond [1,2,3,4,5] rfl (fun h => ?_) (fun h => ?_) <;> simp [go_sem] at h ⊢
  refine Do.skip ?_
  simp [go_sem]
  apply_assumption -exfalso -symm
  have hg : (2 : Int) ^ (e.toNat - 1) = gOfE e + 1 := by unfold gOfE; omega
  repeat (refine Do.seqk fun _ _ => ?_)
  refine Do.region [1,2,3,4,5] true ?_
  simp [go_sem]
  repeat (refine And.intro (by first | omega | (intros; omega) | (intros; exact And.intro (by assumption) (by omega))) ?_)
  rw [hg]
  repeat (refine And.intro (by first | omega | (intros; omega) | (intros; exact And.intro (by assumption) (by omega))) ?_)
  apply_assumption -exfalso -symm
  rw [show gOfE e + 1 - 1 = gOfE e by omega]
  repeat (refine Do.seqk fun _ _ => ?_)
  refine Do.region [1,2,3,4,5] true ?_
  simp [go_sem]
  repeat (refine And.intro (by first | omega | (intros; omega) | (intros; exact And.intro (by assumption) (by omega))) ?_)
  apply_assumption -exfalso -symm
  repeat (refine Do.seqk fun _ _ => ?_)
  refine Do.draw [2,3,4,5] true (by kernel_rfl) ?_
  simp [go_sem]
  repeat (refine And.intro (by first | omega | (intros; omega) | (intros; exact And.intro (by assumption) (by omega))) ?_)
  refine And.intro (by kernel_rfl) ?_
  apply_assumption -exfalso -symm
  refine Do.ret ?_
  simp [endQ, rets, ret1, go_sem]
  repeat (refine And.intro (by first | omega | (intros; omega) | (intros; exact And.intro (by assumption) (by omega))) ?_)
  exact TLe.refl _
/-- A float as a number: its kind, its sign, its exponent, its digits. -/
structure Flt where
  k : Int
  n : Bool
  e : Int
  v : Nat
abbrev Flt.pv (x : Flt) : PV := Fl x.k x.n x.e (nat x.v)
def canon (x : Flt) : Flt × Bool :=
  if x.k = 0 ∨ x.k = 2 then (⟨x.k, x.n, 0, 0⟩, x.e == 0 && decide (x.v = 0))
  else if x.k = 3 then (⟨3, false, 0, 0⟩, !x.n && x.e == 0 && decide (x.v = 0))
  else if x.k = 1 then (if x.v = 0 ∨ x.e < -1048576 ∨ 1048576 < x.e then (⟨0, false, 0, 0⟩, false) else (⟨1, x.n, x.e + tz x.v, x.v / 2 ^ tz x.v⟩, decide (x.e + tz x.v ≤ 1048576)))
  else (⟨0, false, 0, 0⟩, false)
theorem PLe.flt {k : Int} {n : Bool} {e : Int} {c : Ce} {m : List Nat} (h : PLe (.c c) (.c (.w false m))) : PLe (.a [.i .i64 k, .b n, .i .i64 e, c]) (Fl k n e m) := by
  rintro E v ⟨vs, h1, h2⟩
  refine ⟨vs, h1, ?_⟩
  obtain ⟨v1, r1, e1, a1, h2⟩ := h2.cons_iff
  obtain ⟨v2, r2, rfl, a2, h2⟩ := h2.cons_iff
  obtain ⟨v3, r3, rfl, a3, h2⟩ := h2.cons_iff
  obtain ⟨v4, r4, rfl, a4, h2⟩ := h2.cons_iff
  rw [e1]
  exact .cons a1 (.cons a2 (.cons a3 (.cons (h _ _ a4) h2)))
theorem ret_f {k : Int} {n : Bool} {e : Int} {c : Ce} {b : Bool} {x : Flt} {d : Bool} (h : PLe (.c c) (.c (.w false (nat x.v)))) (h1 : (k, n, e, b) = (x.k, x.n, x.e, d)) : TLe (tvOf [.a [.i .i64 k, .b n, .i .i64 e, c], .c (.b b)]) (.t [x.pv, .c (.b d)]) := by
  simp only [Prod.mk.injEq] at h1
  obtain ⟨rfl, rfl, rfl, rfl⟩ := h1
  exact TLe.t (.cons (PLe.flt h) (.cons (PLe.refl _) .nil))
theorem nat_zero : nat 0 = [] := by unfold nat; rfl
theorem ret_z {n : Nat} (h : n = 0) : PLe (.c .z) (.c (.w false (nat n))) := by subst h; rw [nat_zero]; exact PLe.z false
theorem tz_bound {m : List Nat} (wm : Ws m) (h : val m ≠ 0) : tz (val m) < 64 * m.length := by
  obtain ⟨c, hc⟩ := tz_form (n := val m) (by omega)
  have h1 := val_lt wm
  rw [B64_pow] at h1
  have h2 : 2 ^ tz (val m) < 2 ^ (64 * m.length) := Nat.lt_of_le_of_lt (by rw [hc, tz_odd]; exact Nat.le_mul_of_pos_right _ (by omega)) h1
  exact (Nat.pow_lt_pow_iff_right (by omega)).1 h2
theorem canonical_does {k : Int} {n : Bool} {e : Int} {m : List Nat} (hm : Sh m) (wm : Ws m) (he : I64 e) : Does Tryz.prog Gv 124 [Fl k n e m] (.t [(canon ⟨k, n, e, val m⟩).1.pv, .c (.b (canon ⟨k, n, e, val m⟩).2)]) := by
  refine Does.of (nt := 75) (Tryz.func124) rfl rfl rfl (by simp) ?_
  simp only [argTm, PV.ext, Ce.ext]
  repeat (refine Do.seqk fun _ _ => ?_)
  refine Do.region [1,2,3] true ?_
  simp [go_sem]
  repeat (refine And.intro (by first | omega | (intros; omega) | (intros; exact And.intro (by assumption) (by omega))) ?_)
  apply_assumption -exfalso -symm
  repeat (refine Do.seqk fun _ _ => ?_)
  refine Do.region [1,2,3,6] true ?_
  simp [go_sem]
  repeat (refine And.intro (by first | omega | (intros; omega) | (intros; exact And.intro (by assumption) (by omega))) ?_)
  apply_assumption -exfalso -symm
  repeat (refine Do.seqk fun _ _ => ?_)
  refine Do.block ?_
  repeat (refine Do.seqk fun _ _ => ?_)
  refine Do.region [1,2,3,6,7] true ?_
  simp [go_sem]
  repeat (refine And.intro (by first | omega | (intros; omega) | (intros; exact And.intro (by assumption) (by omega))) ?_)
  apply_assumption -exfalso -symm
  rcases (show k = 0 ∨ k = 2 ∨ k = 3 ∨ k = 1 ∨ (k ≠ 0 ∧ k ≠ 2 ∧ k ≠ 3 ∧ k ≠ 1) by omega) with hk | hk | hk | hk | hk
  · subst hk
    repeat (refine Do.seqk fun _ _ => ?_)
    refine Do.cond [1,2,3,6,7] rfl (fun h => ?_) (fun h => ?_) <;> simp [go_sem] at h ⊢
    refine Do.skip ?_
    simp [go_sem]
    apply_assumption -exfalso -symm
    repeat (refine Do.seqk fun _ _ => ?_)
    refine Do.cond [1,2,3,6] rfl (fun h => ?_) (fun h => ?_) <;> simp [go_sem] at h ⊢
    repeat (refine Do.seqk fun _ _ => ?_)
    refine Do.draw [2,3] true (by kernel_rfl) ?_
    simp [go_sem]
    repeat (refine And.intro (by first | omega | (intros; omega) | (intros; exact And.intro (by assumption) (by omega))) ?_)
    refine DoLD.callg true 0 rfl rfl rfl rfl rfl (by simp [go_sem] <;> omega) (fun _ => Zero_does hm) rfl (by first | exact .inl rfl | exact .inr rfl) rfl ?_
    simp [go_sem]
    repeat (refine And.intro (by first | omega | (intros; omega) | (intros; exact And.intro (by assumption) (by omega))) ?_)
    refine And.intro (by kernel_rfl) ?_
    apply_assumption -exfalso -symm
    refine Do.ret ?_
    simp [endQ, rets, ret1, go_sem]
    repeat (refine And.intro (by first | omega | (intros; omega) | (intros; exact And.intro (by assumption) (by omega))) ?_)
    exact ret_f (ret_z (by simp [canon])) (by simp [canon])
  · subst hk
    repeat (refine Do.seqk fun _ _ => ?_)
    refine Do.cond [1,2,3,6,7] rfl (fun h => ?_) (fun h => ?_) <;> simp [go_sem] at h ⊢
    repeat (refine Do.seqk fun _ _ => ?_)
    refine Do.region [1,2,3,6,7] true ?_
    simp [go_sem]
    repeat (refine And.intro (by first | omega | (intros; omega) | (intros; exact And.intro (by assumption) (by omega))) ?_)
    apply_assumption -exfalso -symm
    repeat (refine Do.seqk fun _ _ => ?_)
    refine Do.cond [1,2,3,6] rfl (fun h => ?_) (fun h => ?_) <;> simp [go_sem] at h ⊢
    repeat (refine Do.seqk fun _ _ => ?_)
    refine Do.draw [2,3] true (by kernel_rfl) ?_
    simp [go_sem]
    repeat (refine And.intro (by first | omega | (intros; omega) | (intros; exact And.intro (by assumption) (by omega))) ?_)
    refine DoLD.callg true 0 rfl rfl rfl rfl rfl (by simp [go_sem] <;> omega) (fun _ => Zero_does hm) rfl (by first | exact .inl rfl | exact .inr rfl) rfl ?_
    simp [go_sem]
    repeat (refine And.intro (by first | omega | (intros; omega) | (intros; exact And.intro (by assumption) (by omega))) ?_)
    refine And.intro (by kernel_rfl) ?_
    apply_assumption -exfalso -symm
    refine Do.ret ?_
    simp [endQ, rets, ret1, go_sem]
    repeat (refine And.intro (by first | omega | (intros; omega) | (intros; exact And.intro (by assumption) (by omega))) ?_)
    exact ret_f (ret_z (by simp [canon])) (by simp [canon])
  · subst hk
    repeat (refine Do.seqk fun _ _ => ?_)
    refine Do.cond [1,2,3,6,7] rfl (fun h => ?_) (fun h => ?_) <;> simp [go_sem] at h ⊢
    repeat (refine Do.seqk fun _ _ => ?_)
    refine Do.region [1,2,3,6,7] true ?_
    simp [go_sem]
    repeat (refine And.intro (by first | omega | (intros; omega) | (intros; exact And.intro (by assumption) (by omega))) ?_)
    apply_assumption -exfalso -symm
    repeat (refine Do.seqk fun _ _ => ?_)
    refine Do.cond [1,2,3,6] rfl (fun h => ?_) (fun h => ?_) <;> simp [go_sem] at h ⊢
    repeat (refine Do.seqk fun _ _ => ?_)
    refine Do.region [1,2,3,6,23] true ?_
    simp [go_sem]
    repeat (refine And.intro (by first | omega | (intros; omega) | (intros; exact And.intro (by assumption) (by omega))) ?_)
    apply_assumption -exfalso -symm
    repeat (refine Do.seqk fun _ _ => ?_)
    refine Do.cond [1,2,3,6] rfl (fun h => ?_) (fun h => ?_) <;> simp [go_sem] at h ⊢
    repeat (refine Do.seqk fun _ _ => ?_)
    refine Do.region [2,3] true ?_
    simp [go_sem]
    repeat (refine And.intro (by first | omega | (intros; omega) | (intros; exact And.intro (by assumption) (by omega))) ?_)
    refine DoL.callg true 0 rfl rfl rfl rfl rfl (by simp [go_sem] <;> omega) (fun _ => Zero_does hm) rfl (by first | exact .inl rfl | exact .inr rfl) rfl ?_
    simp [go_sem]
    repeat (refine And.intro (by first | omega | (intros; omega) | (intros; exact And.intro (by assumption) (by omega))) ?_)
    apply_assumption -exfalso -symm
    refine Do.ret ?_
    simp [endQ, rets, ret1, go_sem]
    repeat (refine And.intro (by first | omega | (intros; omega) | (intros; exact And.intro (by assumption) (by omega))) ?_)
    exact ret_f (ret_z (by simp [canon])) (by simp [canon, Bool.and_assoc])
  · subst hk
    repeat (refine Do.seqk fun _ _ => ?_)
    refine Do.cond [1,2,3,6,7] rfl (fun h => ?_) (fun h => ?_) <;> simp [go_sem] at h ⊢
    repeat (refine Do.seqk fun _ _ => ?_)
    refine Do.region [1,2,3,6,7] true ?_
    simp [go_sem]
    repeat (refine And.intro (by first | omega | (intros; omega) | (intros; exact And.intro (by assumption) (by omega))) ?_)
    apply_assumption -exfalso -symm
    repeat (refine Do.seqk fun _ _ => ?_)
    refine Do.cond [1,2,3,6] rfl (fun h => ?_) (fun h => ?_) <;> simp [go_sem] at h ⊢
    repeat (refine Do.seqk fun _ _ => ?_)
    refine Do.region [1,2,3,6,23] true ?_
    simp [go_sem]
    repeat (refine And.intro (by first | omega | (intros; omega) | (intros; exact And.intro (by assumption) (by omega))) ?_)
    apply_assumption -exfalso -symm
    repeat (refine Do.seqk fun _ _ => ?_)
    refine Do.cond [1,2,3,6] rfl (fun h => ?_) (fun h => ?_) <;> simp [go_sem] at h ⊢
    repeat (refine Do.seqk fun _ _ => ?_)
    refine Do.region [1,2,3,6,39] true ?_
    simp [go_sem]
    repeat (refine And.intro (by first | omega | (intros; omega) | (intros; exact And.intro (by assumption) (by omega))) ?_)
    apply_assumption -exfalso -symm
    repeat (refine Do.seqk fun _ _ => ?_)
    refine Do.cond [1,2,3,6] rfl (fun h => ?_) (fun h => ?_) <;> simp [go_sem] at h ⊢
    repeat (refine Do.seqk fun _ _ => ?_)
    refine Do.region [1,2,3,53] true ?_
    simp [go_sem]
    repeat (refine And.intro (by first | omega | (intros; omega) | (intros; exact And.intro (by assumption) (by omega))) ?_)
    refine DoL.call true 0 rfl rfl rfl rfl (by first | exact trivial | omega | (simp; done) | (simp; omega)) (Zero_does hm) rfl (by first | exact .inl rfl | exact .inr rfl) rfl ?_
    simp [go_sem]
    repeat (refine And.intro (by first | omega | (intros; omega) | (intros; exact And.intro (by assumption) (by omega))) ?_)
    apply_assumption -exfalso -symm
    repeat (refine Do.seqk fun _ _ => ?_)
    refine Do.cond [1,2,3] rfl (fun h => ?_) (fun h => ?_) <;> simp [go_sem] at h ⊢
    · repeat (refine Do.seqk fun _ _ => ?_)
      refine Do.region [2,3] true ?_
      simp [go_sem]
      repeat (refine And.intro (by first | omega | (intros; omega) | (intros; exact And.intro (by assumption) (by omega))) ?_)
      apply_assumption -exfalso -symm
      refine Do.ret ?_
      simp [endQ, rets, ret1, go_sem]
      repeat (refine And.intro (by first | omega | (intros; omega) | (intros; exact And.intro (by assumption) (by omega))) ?_)
      have hc : canon ⟨1, n, e, val m⟩ = (⟨0, false, 0, 0⟩, false) := by
        unfold canon
        rw [if_neg (by simp), if_neg (by simp), if_pos rfl, if_pos (by simp; omega)]
      rw [hc]
      exact ret_f (ret_z rfl) rfl
    · refine Do.skip ?_
      simp [go_sem]
      apply_assumption -exfalso -symm
      have hz : val m ≠ 0 := by omega
      have hb := tz_bound wm hz
      repeat (refine Do.seqk fun _ _ => ?_)
      refine Do.region [1,2,3,4] true ?_
      simp [go_sem]
      repeat (refine And.intro (by first | omega | (intros; omega) | (intros; exact And.intro (by assumption) (by omega))) ?_)
      refine DoL.call true 0 rfl rfl rfl rfl (by first | exact trivial | omega | (simp; done) | (simp; omega)) (Trailing_does hm wm) rfl (by first | exact .inl rfl | exact .inr rfl) rfl ?_
      simp [go_sem]
      repeat (refine And.intro (by first | omega | (intros; omega) | (intros; exact And.intro (by assumption) (by omega))) ?_)
      apply_assumption -exfalso -symm
      repeat (refine Do.seqk fun _ _ => ?_)
      refine Do.draw [2,3] true (by kernel_rfl) ?_
      simp [go_sem]
      repeat (refine And.intro (by first | omega | (intros; omega) | (intros; exact And.intro (by assumption) (by omega))) ?_)
      refine DoLD.call true 0 rfl rfl rfl rfl (by first | exact trivial | omega | (simp; done) | (simp; omega)) (Shr_does hm wm (s := tz (val m)) (by omega)) rfl (by first | exact .inl rfl | exact .inr rfl) rfl ?_
      simp [go_sem]
      repeat (refine And.intro (by first | omega | (intros; omega) | (intros; exact And.intro (by assumption) (by omega))) ?_)
      refine And.intro (by kernel_rfl) ?_
      apply_assumption -exfalso -symm
      refine Do.ret ?_
      simp [endQ, rets, ret1, go_sem]
      repeat (refine And.intro (by first | omega | (intros; omega) | (intros; exact And.intro (by assumption) (by omega))) ?_)
      have hc : canon ⟨1, n, e, val m⟩ = (⟨1, n, e + tz (val m), val m / 2 ^ tz (val m)⟩, decide (e + tz (val m) ≤ 1048576)) := by
        unfold canon
        rw [if_neg (by simp), if_neg (by simp), if_pos rfl, if_neg (by simp; omega)]
      rw [hc]
      exact ret_f (PLe.ext _) rfl
  · repeat (refine Do.seqk fun _ _ => ?_)
    refine Do.cond [1,2,3,6,7] rfl (fun h => ?_) (fun h => ?_) <;> simp [go_sem] at h ⊢
    · exact absurd h hk.1
    repeat (refine Do.seqk fun _ _ => ?_)
    refine Do.region [1,2,3,6,7] true ?_
    simp [go_sem]
    repeat (refine And.intro (by first | omega | (intros; omega) | (intros; exact And.intro (by assumption) (by omega))) ?_)
    apply_assumption -exfalso -symm
    repeat (refine Do.seqk fun _ _ => ?_)
    refine Do.cond [1,2,3,6] rfl (fun h => ?_) (fun h => ?_) <;> simp [go_sem] at h ⊢
    · exact absurd h hk.2.1
    repeat (refine Do.seqk fun _ _ => ?_)
    refine Do.region [1,2,3,6,23] true ?_
    simp [go_sem]
    repeat (refine And.intro (by first | omega | (intros; omega) | (intros; exact And.intro (by assumption) (by omega))) ?_)
    apply_assumption -exfalso -symm
    repeat (refine Do.seqk fun _ _ => ?_)
    refine Do.cond [1,2,3,6] rfl (fun h => ?_) (fun h => ?_) <;> simp [go_sem] at h ⊢
    · exact absurd h hk.2.2.1
    repeat (refine Do.seqk fun _ _ => ?_)
    refine Do.region [1,2,3,6,39] true ?_
    simp [go_sem]
    repeat (refine And.intro (by first | omega | (intros; omega) | (intros; exact And.intro (by assumption) (by omega))) ?_)
    apply_assumption -exfalso -symm
    repeat (refine Do.seqk fun _ _ => ?_)
    refine Do.cond [1,2,3,6] rfl (fun h => ?_) (fun h => ?_) <;> simp [go_sem] at h ⊢
    · exact absurd h hk.2.2.2
    refine Do.skip ?_
    simp [go_sem]
    apply_assumption -exfalso -symm
    repeat (refine Do.seqk fun _ _ => ?_)
    refine Do.region [2,3] true ?_
    simp [go_sem]
    repeat (refine And.intro (by first | omega | (intros; omega) | (intros; exact And.intro (by assumption) (by omega))) ?_)
    apply_assumption -exfalso -symm
    refine Do.ret ?_
    simp [endQ, rets, ret1, go_sem]
    repeat (refine And.intro (by first | omega | (intros; omega) | (intros; exact And.intro (by assumption) (by omega))) ?_)
    exact ret_f (ret_z (by simp [canon, hk])) (by simp [canon, hk])
end Go.Proofs.YtbhokdhkfodpfaaGreatDoor
/- More of package format. No condition. -/
namespace Go.Proofs.YtbhokdhkfodpfaaGreatDoor
set_option linter.unusedVariables false
set_option linter.unusedSimpArgs false
set_option maxHeartbeats 1000000
theorem nat_len {n k : Nat} (h : n < 2 ^ (64 * k)) : (nat n).length ≤ k := by
  rcases Nat.eq_zero_or_pos (nat n).length with h0 | h0
  · omega
  · have a := val_last h0
    have b := (nat_cn n).last (List.length_pos_iff.1 h0)
    rw [val_nat] at a
    have c := Nat.mul_le_mul_left (2 ^ (64 * ((nat n).length - 1))) (Nat.pos_of_ne_zero b)
    have d : 2 ^ (64 * ((nat n).length - 1)) < 2 ^ (64 * k) := by omega
    have := (Nat.pow_lt_pow_iff_right (by omega)).1 d
    omega
theorem nat_len_le {m : List Nat} (wm : Ws m) {n : Nat} (h : n ≤ val m) : (nat n).length ≤ m.length := nat_len (by have := val_lt wm; rw [B64_pow] at this; omega)
theorem canon_e {x : Flt} (h : (canon x).2 = true) : -1048576 ≤ (canon x).1.e ∧ (canon x).1.e ≤ 1048576 := by
  unfold canon at h ⊢
  split
  · simp
  · split
    · simp
    · split
      · split
        · simp
        · rename_i h1 h2 h3 h4
          rw [if_neg h1, if_neg h2, if_pos h3, if_neg h4] at h
          simp at h ⊢
          omega
      · simp
theorem canon_v (x : Flt) : (canon x).1.v ≤ x.v := by
  unfold canon
  split
  · simp
  · split
    · simp
    · split
      · split
        · simp
        · exact Nat.div_le_self _ _
      · simp
/-- The canonical float, if it is one of a format. -/
def holdsP (e p : Int) (x : Flt) : Flt × Bool :=
  if (canon x).2 = false ∨ (canon x).1.k ≠ 1 then canon x
  else ((canon x).1, decide ((bl (canon x).1.v : Int) ≤ p) && decide (1 - gOfE e - (p - 1) ≤ (canon x).1.e) && decide ((canon x).1.e + bl (canon x).1.v - 1 ≤ gOfE e))
theorem bl_le_len {m : List Nat} (wm : Ws m) {n : Nat} (h : n ≤ val m) : bl n ≤ 64 * m.length := (bl_lt _ _).2 (by have := val_lt wm; rw [B64_pow] at this; omega)
theorem holds_does {f p : Int} (hf : fmOk f p = true) {k : Int} {n : Bool} {e : Int} {m : List Nat} (hm : Sh m) (wm : Ws m) (he : I64 e) : Does Tryz.prog Gv 95 [Fm f p, Fl k n e m] (.t [(holdsP f p ⟨k, n, e, val m⟩).1.pv, .c (.b (holdsP f p ⟨k, n, e, val m⟩).2)]) := by
  refine Does.of (nt := 57) (Tryz.func95) rfl rfl rfl (by simp) ?_
  simp only [argTm, PV.ext, Ce.ext]
  have hv := canon_v ⟨k, n, e, val m⟩
  have hE := @canon_e ⟨k, n, e, val m⟩
  have hcan := canonical_does (k := k) (n := n) hm wm he
  unfold holdsP
  generalize canon ⟨k, n, e, val m⟩ = c at *
  obtain ⟨⟨ck, cn, ce, cv⟩, cb⟩ := c
  simp only [] at hv hE hcan ⊢
  have hb := bl_le_len wm hv
  have hl := nat_len_le wm hv
  obtain ⟨b1, b2, b3, b4⟩ := fmOk_spec hf
  obtain ⟨b5, b6⟩ := gOfE_le b1 b2
  repeat (refine Do.seqk fun _ _ => ?_)
  refine Do.region [2,3,4,5] true ?_
  simp [go_sem]
  repeat (refine And.intro (by first | omega | (intros; omega) | (intros; exact And.intro (by assumption) (by omega))) ?_)
  apply_assumption -exfalso -symm
  repeat (refine Do.seqk fun _ _ => ?_)
  refine Do.region [2,3,4,5,6,7] true ?_
  simp [go_sem]
  repeat (refine And.intro (by first | omega | (intros; omega) | (intros; exact And.intro (by assumption) (by omega))) ?_)
  refine DoL.call true 0 rfl rfl rfl rfl (by first | exact trivial | omega | (simp; done) | (simp; omega)) (hcan) rfl (by first | exact .inl rfl | exact .inr rfl) rfl ?_
  simp [go_sem]
  repeat (refine And.intro (by first | omega | (intros; omega) | (intros; exact And.intro (by assumption) (by omega))) ?_)
  apply_assumption -exfalso -symm
  repeat (refine Do.seqk fun _ _ => ?_)
  refine Do.region [2,3,4,5,6,7,24] true ?_
  simp [go_sem]
  repeat (refine And.intro (by first | omega | (intros; omega) | (intros; exact And.intro (by assumption) (by omega))) ?_)
  apply_assumption -exfalso -symm
  repeat (refine Do.seqk fun _ _ => ?_)
  refine Do.cond [2,3,4,5,6,7] rfl (fun h => ?_) (fun h => ?_) <;> simp [go_sem] at h ⊢
  · repeat (refine Do.seqk fun _ _ => ?_)
    refine Do.region [4,5] true ?_
    simp [go_sem]
    repeat (refine And.intro (by first | omega | (intros; omega) | (intros; exact And.intro (by assumption) (by omega))) ?_)
    apply_assumption -exfalso -symm
    refine Do.ret ?_
    simp [endQ, rets, ret1, go_sem]
    repeat (refine And.intro (by first | omega | (intros; omega) | (intros; exact And.intro (by assumption) (by omega))) ?_)
    rw [if_pos h]
    exact ret_f (PLe.refl _) rfl
  · refine Do.skip ?_
    simp [go_sem]
    apply_assumption -exfalso -symm
    repeat (refine Do.seqk fun _ _ => ?_)
    refine Do.region [2,3,4,5,6,7,9,10] true ?_
    simp [go_sem]
    repeat (refine And.intro (by first | omega | (intros; omega) | (intros; exact And.intro (by assumption) (by omega))) ?_)
    refine DoL.call true 0 rfl rfl rfl rfl (by first | exact trivial | omega | (simp; done) | (simp; omega)) (Range_does hf) rfl (by first | exact .inl rfl | exact .inr rfl) rfl ?_
    simp [go_sem]
    repeat (refine And.intro (by first | omega | (intros; omega) | (intros; exact And.intro (by assumption) (by omega))) ?_)
    apply_assumption -exfalso -symm
    repeat (refine Do.seqk fun _ _ => ?_)
    refine Do.region [2,3,4,5,6,7,9,10,12] true ?_
    simp [go_sem]
    repeat (refine And.intro (by first | omega | (intros; omega) | (intros; exact And.intro (by assumption) (by omega))) ?_)
    refine DoL.call true 0 rfl rfl rfl rfl (by first | exact trivial | omega | (simp; done) | (simp; omega)) (Len_does (x := nat cv) (by omega) (nat_ws _)) rfl (by first | exact .inl rfl | exact .inr rfl) rfl ?_
    simp [go_sem]
    repeat (refine And.intro (by first | omega | (intros; omega) | (intros; exact And.intro (by assumption) (by omega))) ?_)
    apply_assumption -exfalso -symm
    obtain ⟨e1, e2⟩ := hE h.1
    repeat (refine Do.seqk fun _ _ => ?_)
    refine Do.draw [4,5] true (by kernel_rfl) ?_
    simp [go_sem]
    repeat (refine And.intro (by first | omega | (intros; omega) | (intros; exact And.intro (by assumption) (by omega))) ?_)
    refine And.intro (by kernel_rfl) ?_
    apply_assumption -exfalso -symm
    refine Do.ret ?_
    simp [endQ, rets, ret1, go_sem]
    repeat (refine And.intro (by first | omega | (intros; omega) | (intros; exact And.intro (by assumption) (by omega))) ?_)
    rw [if_neg (by simp [h.1, h.2])]
    exact ret_f (PLe.refl _) rfl
/-- Are two floats the same? -/
def sameP (x y : Flt) : Bool := (canon x).2 && (canon y).2 && (canon x).1.k == (canon y).1.k && (canon x).1.n == (canon y).1.n && (canon x).1.e == (canon y).1.e && decide ((canon x).1.v = (canon y).1.v)
end Go.Proofs.YtbhokdhkfodpfaaGreatDoor
/- The functions of package fin on pure values. No condition. -/
namespace Go.Proofs.YtbhokdhkfodpfaaGreatDoor
set_option linter.unusedVariables false
set_option linter.unusedSimpArgs false
variable {G : Gl}
set_option maxHeartbeats 1000000
abbrev Nm (n : Bool) (m : List Nat) (e : Int) : PV := .a [.b n, .w false m, .i .i64 e]
/-- A number: its sign, its digits, its exponent. -/
structure Nu where
  n : Bool
  v : Nat
  e : Int
abbrev Nu.pv (x : Nu) : PV := Nm x.n (nat x.v) x.e
structure Nu.Ok (x : Nu) : Prop where
  lo : -4194304 ≤ x.e
  hi : x.e + bl x.v ≤ 4194304
theorem nat_len_bl (v : Nat) : (nat v).length ≤ bl v := nat_len (Nat.lt_of_lt_of_le (bl_self v) (Nat.pow_le_pow_right (by omega) (by omega)))
theorem Nu.Ok.len {x : Nu} (h : x.Ok) : (nat x.v).length ≤ 8388608 := by
  have := nat_len_bl x.v
  have := h.lo
  have := h.hi
  omega
theorem Right_does {r : Int} : Does Tryz.prog G 99 [.c (.i .i64 r)] (.v (.c (.b (decide (0 ≤ r) && decide (r ≤ 4))))) := by
  refine Does.of (nt := 9) (Tryz.func99) rfl rfl rfl (by simp) ?_
  simp only [argTm, PV.ext, Ce.ext]
  repeat (refine Do.seqk fun _ _ => ?_)
  refine Do.region [0,2] true ?_
  simp [go_sem]
  repeat (refine And.intro (by first | omega | (intros; omega) | (intros; exact And.intro (by assumption) (by omega))) ?_)
  apply_assumption -exfalso -symm
  repeat (refine Do.seqk fun _ _ => ?_)
  refine Do.region [2] true ?_
  simp [go_sem]
  repeat (refine And.intro (by first | omega | (intros; omega) | (intros; exact And.intro (by assumption) (by omega))) ?_)
  apply_assumption -exfalso -symm
  refine Do.ret ?_
  simp [endQ, rets, ret1, go_sem]
  repeat (refine And.intro (by first | omega | (intros; omega) | (intros; exact And.intro (by assumption) (by omega))) ?_)
  exact TLe.refl _
theorem Of_does {k : Int} {n : Bool} {e : Int} {m : List Nat} : Does Tryz.prog G 89 [Fl k n e m] (.v (Nm n m e)) := by
  refine Does.of (nt := 10) (Tryz.func89) rfl rfl rfl (by simp) ?_
  simp only [argTm, PV.ext, Ce.ext]
  repeat (refine Do.seqk fun _ _ => ?_)
  refine Do.region [1,2] true ?_
  simp [go_sem]
  repeat (refine And.intro (by first | omega | (intros; omega) | (intros; exact And.intro (by assumption) (by omega))) ?_)
  apply_assumption -exfalso -symm
  repeat (refine Do.seqk fun _ _ => ?_)
  refine Do.region [2] true ?_
  simp [go_sem]
  repeat (refine And.intro (by first | omega | (intros; omega) | (intros; exact And.intro (by assumption) (by omega))) ?_)
  apply_assumption -exfalso -symm
  refine Do.ret ?_
  simp [endQ, rets, ret1, go_sem]
  repeat (refine And.intro (by first | omega | (intros; omega) | (intros; exact And.intro (by assumption) (by omega))) ?_)
  exact TLe.refl _
theorem NZero_does {n : Bool} {e : Int} {m : List Nat} (hm : Sh m) : Does Tryz.prog G 119 [Nm n m e] (.v (.c (.b (decide (val m = 0))))) := by
  refine Does.of (nt := 6) (Tryz.func119) rfl rfl rfl (by simp) ?_
  simp only [argTm, PV.ext, Ce.ext]
  repeat (refine Do.seqk fun _ _ => ?_)
  refine Do.region [1,2] true ?_
  simp [go_sem]
  repeat (refine And.intro (by first | omega | (intros; omega) | (intros; exact And.intro (by assumption) (by omega))) ?_)
  apply_assumption -exfalso -symm
  repeat (refine Do.seqk fun _ _ => ?_)
  refine Do.region [2] true ?_
  simp [go_sem]
  repeat (refine And.intro (by first | omega | (intros; omega) | (intros; exact And.intro (by assumption) (by omega))) ?_)
  refine DoL.call true 0 rfl rfl rfl rfl (by first | exact trivial | omega | (simp; done) | (simp; omega)) (Zero_does hm) rfl (by first | exact .inl rfl | exact .inr rfl) rfl ?_
  simp [go_sem]
  repeat (refine And.intro (by first | omega | (intros; omega) | (intros; exact And.intro (by assumption) (by omega))) ?_)
  apply_assumption -exfalso -symm
  refine Do.ret ?_
  simp [endQ, rets, ret1, go_sem]
  repeat (refine And.intro (by first | omega | (intros; omega) | (intros; exact And.intro (by assumption) (by omega))) ?_)
  exact TLe.refl _
/-- Does the greatest number take the place of the infinite one? -/
def grP (r : Int) (n : Bool) : Bool := r == 2 || r == 3 && n || r == 4 && !n
theorem greatest_does {r : Int} {n : Bool} : Does Tryz.prog G 144 [.c (.i .i64 r), .c (.b n)] (.v (.c (.b (grP r n)))) := by
  refine Does.of (nt := 22) (Tryz.func144) rfl rfl rfl (by simp) ?_
  simp only [argTm, PV.ext, Ce.ext]
  repeat (refine Do.seqk fun _ _ => ?_)
  refine Do.region [0,1,4] true ?_
  simp [go_sem]
  repeat (refine And.intro (by first | omega | (intros; omega) | (intros; exact And.intro (by assumption) (by omega))) ?_)
  apply_assumption -exfalso -symm
  repeat (refine Do.seqk fun _ _ => ?_)
  refine Do.region [4] true ?_
  simp [go_sem]
  repeat (refine And.intro (by first | omega | (intros; omega) | (intros; exact And.intro (by assumption) (by omega))) ?_)
  refine And.intro (by grind) (And.intro (by grind) ?_)
  apply_assumption -exfalso -symm
  refine Do.ret ?_
  simp [endQ, rets, ret1, go_sem]
  repeat (refine And.intro (by first | omega | (intros; omega) | (intros; exact And.intro (by assumption) (by omega))) ?_)
  exact TLe.refl _
/-- The exponent of the step at numbers from 2^e on. -/
def stepP (f p e : Int) : Int := if e < 1 - gOfE f then 1 - gOfE f - (p - 1) else e - p + 1
theorem Step_does {f p e : Int} (hf : fmOk f p = true) (h1 : -4611686018427387904 ≤ e) (h2 : e ≤ 4611686018427387904) : Does Tryz.prog G 142 [Fm f p, .c (.i .i64 e)] (.v (.c (.i .i64 (stepP f p e)))) := by
  refine Does.of (nt := 25) (Tryz.func142) rfl rfl rfl (by simp) ?_
  simp only [argTm, PV.ext, Ce.ext]
  obtain ⟨b1, b2, b3, b4⟩ := fmOk_spec hf
  repeat (refine Do.seqk fun _ _ => ?_)
  refine Do.region [1,2,4] true ?_
  simp [go_sem]
  repeat (refine And.intro (by first | omega | (intros; omega) | (intros; exact And.intro (by assumption) (by omega))) ?_)
  apply_assumption -exfalso -symm
  repeat (refine Do.seqk fun _ _ => ?_)
  refine Do.region [1,2,4,5,7] true ?_
  simp [go_sem]
  repeat (refine And.intro (by first | omega | (intros; omega) | (intros; exact And.intro (by assumption) (by omega))) ?_)
  refine DoL.call true 0 rfl rfl rfl rfl (by first | exact trivial | omega | (simp; done) | (simp; omega)) (Range_does hf) rfl (by first | exact .inl rfl | exact .inr rfl) rfl ?_
  simp [go_sem]
  repeat (refine And.intro (by first | omega | (intros; omega) | (intros; exact And.intro (by assumption) (by omega))) ?_)
  apply_assumption -exfalso -symm
  repeat (refine Do.seqk fun _ _ => ?_)
  refine Do.region [1,2,4,5,7,18] true ?_
  simp [go_sem]
  repeat (refine And.intro (by first | omega | (intros; omega) | (intros; exact And.intro (by assumption) (by omega))) ?_)
  apply_assumption -exfalso -symm
  repeat (refine Do.seqk fun _ _ => ?_)
  refine Do.cond [1,2,4,5,7] rfl (fun h => ?_) (fun h => ?_) <;> simp [go_sem] at h ⊢
  · repeat (refine Do.seqk fun _ _ => ?_)
    refine Do.region [4] true ?_
    simp [go_sem]
    repeat (refine And.intro (by first | omega | (intros; omega) | (intros; exact And.intro (by assumption) (by omega))) ?_)
    apply_assumption -exfalso -symm
    refine Do.ret ?_
    simp [endQ, rets, ret1, go_sem]
    repeat (refine And.intro (by first | omega | (intros; omega) | (intros; exact And.intro (by assumption) (by omega))) ?_)
    exact ret_i (by rw [stepP, if_pos h])
  · refine Do.skip ?_
    simp [go_sem]
    apply_assumption -exfalso -symm
    repeat (refine Do.seqk fun _ _ => ?_)
    refine Do.region [4] true ?_
    simp [go_sem]
    repeat (refine And.intro (by first | omega | (intros; omega) | (intros; exact And.intro (by assumption) (by omega))) ?_)
    apply_assumption -exfalso -symm
    refine Do.ret ?_
    simp [endQ, rets, ret1, go_sem]
    repeat (refine And.intro (by first | omega | (intros; omega) | (intros; exact And.intro (by assumption) (by omega))) ?_)
    exact ret_i (by rw [stepP, if_neg (by omega)])
/-- The canonical float with a value. -/
def mkP (n : Bool) (v : Nat) (e : Int) : Flt := if v = 0 then ⟨0, n, 0, 0⟩ else ⟨1, n, e + tz v, v / 2 ^ tz v⟩
theorem ret_f1 {k : Int} {n : Bool} {e : Int} {c : Ce} {x : Flt} (h : PLe (.c c) (.c (.w false (nat x.v)))) (h1 : (k, n, e) = (x.k, x.n, x.e)) : TLe (tvOf [.a [.i .i64 k, .b n, .i .i64 e, c]]) (.v x.pv) := by
  simp only [Prod.mk.injEq] at h1
  obtain ⟨rfl, rfl, rfl⟩ := h1
  exact TLe.v (PLe.flt h)
theorem Make_does {n : Bool} {m : List Nat} {e : Int} (hm : Sh m) (wm : Ws m) (h1 : -4611686018427387904 ≤ e) (h2 : e ≤ 4611686018427387904) : Does Tryz.prog Gv 146 [.c (.b n), .c (.w false m), .c (.i .i64 e)] (.v (mkP n (val m) e).pv) := by
  refine Does.of (nt := 22) (Tryz.func146) rfl rfl rfl (by simp) ?_
  simp only [argTm, PV.ext, Ce.ext]
  repeat (refine Do.seqk fun _ _ => ?_)
  refine Do.region [0,1,2,6] true ?_
  simp [go_sem]
  repeat (refine And.intro (by first | omega | (intros; omega) | (intros; exact And.intro (by assumption) (by omega))) ?_)
  apply_assumption -exfalso -symm
  repeat (refine Do.seqk fun _ _ => ?_)
  refine Do.region [0,1,2,6,9] true ?_
  simp [go_sem]
  repeat (refine And.intro (by first | omega | (intros; omega) | (intros; exact And.intro (by assumption) (by omega))) ?_)
  refine DoL.call true 0 rfl rfl rfl rfl (by first | exact trivial | omega | (simp; done) | (simp; omega)) (Zero_does hm) rfl (by first | exact .inl rfl | exact .inr rfl) rfl ?_
  simp [go_sem]
  repeat (refine And.intro (by first | omega | (intros; omega) | (intros; exact And.intro (by assumption) (by omega))) ?_)
  apply_assumption -exfalso -symm
  repeat (refine Do.seqk fun _ _ => ?_)
  refine Do.cond [0,1,2,6] rfl (fun h => ?_) (fun h => ?_) <;> simp [go_sem] at h ⊢
  · repeat (refine Do.seqk fun _ _ => ?_)
    refine Do.region [6] true ?_
    simp [go_sem]
    repeat (refine And.intro (by first | omega | (intros; omega) | (intros; exact And.intro (by assumption) (by omega))) ?_)
    apply_assumption -exfalso -symm
    refine Do.ret ?_
    simp [endQ, rets, ret1, go_sem]
    repeat (refine And.intro (by first | omega | (intros; omega) | (intros; exact And.intro (by assumption) (by omega))) ?_)
    rw [mkP, if_pos h]
    exact ret_f1 (ret_z rfl) rfl
  · refine Do.skip ?_
    simp [go_sem]
    apply_assumption -exfalso -symm
    have hb := tz_bound wm h
    repeat (refine Do.seqk fun _ _ => ?_)
    refine Do.region [0,1,2,6,7] true ?_
    simp [go_sem]
    repeat (refine And.intro (by first | omega | (intros; omega) | (intros; exact And.intro (by assumption) (by omega))) ?_)
    refine DoL.call true 0 rfl rfl rfl rfl (by first | exact trivial | omega | (simp; done) | (simp; omega)) (Trailing_does hm wm) rfl (by first | exact .inl rfl | exact .inr rfl) rfl ?_
    simp [go_sem]
    repeat (refine And.intro (by first | omega | (intros; omega) | (intros; exact And.intro (by assumption) (by omega))) ?_)
    apply_assumption -exfalso -symm
    repeat (refine Do.seqk fun _ _ => ?_)
    refine Do.region [6] true ?_
    simp [go_sem]
    repeat (refine And.intro (by first | omega | (intros; omega) | (intros; exact And.intro (by assumption) (by omega))) ?_)
    refine DoL.call true 0 rfl rfl rfl rfl (by first | exact trivial | omega | (simp; done) | (simp; omega)) (Shr_does hm wm (s := tz (val m)) (by omega)) rfl (by first | exact .inl rfl | exact .inr rfl) rfl ?_
    simp [go_sem]
    repeat (refine And.intro (by first | omega | (intros; omega) | (intros; exact And.intro (by assumption) (by omega))) ?_)
    apply_assumption -exfalso -symm
    refine Do.ret ?_
    simp [endQ, rets, ret1, go_sem]
    repeat (refine And.intro (by first | omega | (intros; omega) | (intros; exact And.intro (by assumption) (by omega))) ?_)
    rw [mkP, if_neg h]
    exact ret_f1 (PLe.ext _) rfl
end Go.Proofs.YtbhokdhkfodpfaaGreatDoor
