/- Quotients rounded, and rounded to odd, by the program. No condition. Rounded to odd, the program: the plain cases. No condition. Rounded to odd, the program: what is less than the least float. No condition. Rounded to odd, the program: a float. No condition. Rounded to odd, the program. No condition. What is rounded without flags; what is beyond the greatest float; plain. No condition. Rounded to odd, by the reference. No condition. Rounded to odd, by the reference: the whole. No condition. -/
import Derived.Test.YtokgalpflooegaaGreatDoorMn
import Derived.Test.YtokgalpflooegaaGreatDoorMm
import Derived.Test.YtokgalpflooegaaGreatDoorMk
import Derived.Test.YtokgalpflooegaaGreatDoorMi
import Derived.KernelRfl
import Derived.Test.YtokgalpflooegaaGreatDoorMj
/- Quotients rounded, and rounded to odd, by the program. No condition. -/
namespace Go.Proofs.YtokgalpflooegaaGreatDoor
set_option linter.unusedVariables false
set_option linter.unusedSimpArgs false
set_option maxHeartbeats 8000000
set_option maxRecDepth 10000
theorem Ratio_does {f p r : Int} (hf : fmOk f p = true) (hr : 0 ≤ r) (hr' : r ≤ 4) {n : Bool} {m d : List Nat} (hm : m.length ≤ 4096) (wm : Ws m) (hd : d.length ≤ 4096) (wd : Ws d) (h0 : 0 < val m) (h1 : 0 < val d) {K : Nat} (hK : p + 3 + bl (val d) ≤ K) :
    Does Tryz.prog Gv 122 [Fm f p, .c (.i .i64 r), .c (.b n), Wd m, Wd d, .c (.i .i64 0)] (.t [(ratP f p r n (val m) (val d) K).1.pv, .c (.i .i64 (ratP f p r n (val m) (val d) K).2)]) := by
  obtain ⟨b1, b2, b3, b4⟩ := fmOk_spec hf
  have hbm : bl (val m) ≤ 64 * m.length := bl_le_len wm (Nat.le_refl _)
  have hbd : bl (val d) ≤ 64 * d.length := bl_le_len wd (Nat.le_refl _)
  have hpm := bl_pos h0
  have hL := @Len_does Gv m (by unfold Sh; omega) wm
  have hL1 := @Len_does Gv d (by unfold Sh; omega) wd
  by_cases hs : p + 3 - bl (val m) + bl (val d) > 0
  · obtain ⟨s, hs'⟩ : ∃ s : Nat, p + 3 - bl (val m) + bl (val d) = s := ⟨(p + 3 - bl (val m) + bl (val d)).toNat, by omega⟩
    have hen := @quo_enough (val m) (val d) s p h0 h1 (by omega) (by omega)
    rw [ratP_deep (K := K) (s := s) (by omega) h1 (by omega) (by omega)]
    have hS := @Shl_does Gv m (by unfold Sh; omega) wm s (by omega)
    have hbl : bl (val m * 2 ^ s) = s + bl (val m) := bl_mul_pow _ _ h0
    have hlen := len_bl (show bl (val m * 2 ^ s) ≤ 600000 by omega)
    have hD := @WDivMod_does Gv (nat (val m * 2 ^ s)) d (by omega) (nat_ws _) (by omega) wd h1
    rw [val_nat] at hD
    have hqb := bl_mono (Nat.div_le_self (val m * 2 ^ s) (val d))
    have hrb := len_bl (Nat.le_trans (bl_mono (Nat.mod_le (val m * 2 ^ s) (val d))) (show bl (val m * 2 ^ s) ≤ 600000 by omega))
    have hZ := @Zero_does Gv (nat (val m * 2 ^ s % val d)) (by unfold Sh; omega)
    rw [val_nat] at hZ
    have hF := @Float_does f p r hf hr hr' n (quoM (val m) (val d) s) (0 - (s : Int)) (quoS (val m) (val d) s) (by omega) (by unfold quoM; omega)
    rw [Int.zero_sub] at hF
    have e1 : val m * 2 ^ s / val d = quoM (val m) (val d) s := rfl
    have e2 : (!decide (val m * 2 ^ s % val d = 0)) = quoS (val m) (val d) s := rfl
    rw [e1] at hD
    unfold ratP
    generalize roundP f p r n (quoM (val m) (val d) s) (-(s : Int)) (quoS (val m) (val d) s) = z at *
    generalize quoM (val m) (val d) s = q at *
    rw [← e2] at hF
    generalize val m * 2 ^ s = u at *
    generalize u % val d = w at *
    refine Does.of (nt := 50) Tryz.func122 rfl rfl rfl (by simp) ?_
    simp only [argTm, PV.ext, Ce.ext]
    refine Do.seqk fun _ k1_ => ?_
    refine Do.region [1,2,3,4,5,6,12] true ?_
    simp [go_sem]
    apply k1_; clear k1_
    refine Do.seqk fun _ k2_ => ?_
    refine Do.draw [1,2,3,4,5,6,12,14] true (by kernel_rfl) ?_
    simp [go_sem]
    repeat (refine And.intro (by first | omega | (intros; omega) | kernel_rfl | grind) ?_)
    refine DoLD.call true 105 rfl rfl rfl rfl (by first | exact trivial | omega | (simp; done) | (simp; omega)) (hL) rfl (by first | exact .inl rfl | exact .inr rfl) rfl ?_
    simp [go_sem]
    repeat (refine And.intro (by first | omega | (intros; omega) | kernel_rfl | grind) ?_)
    refine DoLD.call true 108 rfl rfl rfl rfl (by first | exact trivial | omega | (simp; done) | (simp; omega)) (hL1) rfl (by first | exact .inl rfl | exact .inr rfl) rfl ?_
    simp [go_sem]
    repeat (refine And.intro (by first | omega | (intros; omega) | kernel_rfl | grind) ?_)
    try (refine And.intro (by kernel_rfl) ?_)
    apply k2_; clear k2_
    refine Do.seqk fun _ k3_ => ?_
    refine Do.seqk fun _ k4_ => ?_
    refine Do.region [1,2,3,4,5,6,12,14,27] true ?_
    simp [go_sem, hs']
    apply k4_; clear k4_
    refine Do.cond [1,2,3,4,5,6,12,14] rfl (fun g1 => ?_) (fun g1 => ?_) <;> simp [go_sem, hs'] at g1 ⊢
    · refine Do.region [1,2,3,4,5,6,12,14] true ?_
      simp [go_sem, hs']
      refine DoL.call true 303 rfl rfl rfl rfl (by first | exact trivial | omega | (simp; done) | (simp; omega)) (hS) rfl (by first | exact .inl rfl | exact .inr rfl) rfl ?_
      simp [go_sem, hs']
      apply k3_; clear k3_
      refine Do.seqk fun _ k5_ => ?_
      refine Do.region [1,2,5,6,12,14,15,16] true ?_
      simp [go_sem, hs']
      refine DoL.call true 503 rfl rfl rfl rfl (by first | exact trivial | omega | (simp; done) | (simp; omega)) (hD) rfl (by first | exact .inl rfl | exact .inr rfl) rfl ?_
      simp [go_sem, hs']
      apply k5_; clear k5_
      refine Do.seqk fun _ k6_ => ?_
      refine Do.draw [12,13] true (by kernel_rfl) ?_
      simp [go_sem, hs']
      repeat (refine And.intro (by first | omega | (intros; omega) | kernel_rfl | grind) ?_)
      refine DoLD.call true 609 rfl rfl rfl rfl (by first | exact trivial | omega | (simp; done) | (simp; omega)) (hZ) rfl (by first | exact .inl rfl | exact .inr rfl) rfl ?_
      simp [go_sem, hs']
      repeat (refine And.intro (by first | omega | (intros; omega) | kernel_rfl | grind) ?_)
      refine DoLD.call true 611 rfl rfl rfl rfl (by first | exact trivial | omega | (simp; done) | (simp; omega)) (hF) rfl (by first | exact .inl rfl | exact .inr rfl) rfl ?_
      simp [go_sem, hs']
      repeat (refine And.intro (by first | omega | (intros; omega) | kernel_rfl | grind) ?_)
      try (refine And.intro (by kernel_rfl) ?_)
      apply k6_; clear k6_
      refine Do.ret ?_
      simp [endQ, rets, ret1, go_sem, hs']
      repeat (refine And.intro (by first | omega | (intros; omega) | grind) ?_)
      exact TLe.refl _
    · omega
  · have hen := @quo_enough (val m) (val d) 0 p h0 h1 (by omega) (by omega)
    rw [ratP_deep (K := K) (s := 0) (by omega) h1 (by omega) (by omega)]
    have hD := @WDivMod_does Gv m d (by omega) wm (by omega) wd h1
    have hqb := bl_mono (Nat.div_le_self (val m) (val d))
    have hrb := len_bl (Nat.le_trans (bl_mono (Nat.mod_le (val m) (val d))) (show bl (val m) ≤ 600000 by omega))
    have hZ := @Zero_does Gv (nat (val m % val d)) (by unfold Sh; omega)
    rw [val_nat] at hZ
    have e0 : quoM (val m) (val d) 0 = val m / val d := by unfold quoM; rw [Nat.pow_zero, Nat.mul_one]
    have e2 : quoS (val m) (val d) 0 = !decide (val m % val d = 0) := by unfold quoS; rw [Nat.pow_zero, Nat.mul_one]
    have hF := @Float_does f p r hf hr hr' n (val m / val d) 0 (!decide (val m % val d = 0)) (by omega) (by omega)
    unfold ratP
    rw [e0, e2, show (-((0 : Nat) : Int)) = 0 from rfl]
    generalize roundP f p r n (val m / val d) 0 (!decide (val m % val d = 0)) = z at *
    generalize val m / val d = q at *
    generalize val m % val d = w at *
    refine Does.of (nt := 50) Tryz.func122 rfl rfl rfl (by simp) ?_
    simp only [argTm, PV.ext, Ce.ext]
    refine Do.seqk fun _ k1_ => ?_
    refine Do.region [1,2,3,4,5,6,12] true ?_
    simp [go_sem]
    apply k1_; clear k1_
    refine Do.seqk fun _ k2_ => ?_
    refine Do.draw [1,2,3,4,5,6,12,14] true (by kernel_rfl) ?_
    simp [go_sem]
    repeat (refine And.intro (by first | omega | (intros; omega) | kernel_rfl | grind) ?_)
    refine DoLD.call true 105 rfl rfl rfl rfl (by first | exact trivial | omega | (simp; done) | (simp; omega)) (hL) rfl (by first | exact .inl rfl | exact .inr rfl) rfl ?_
    simp [go_sem]
    repeat (refine And.intro (by first | omega | (intros; omega) | kernel_rfl | grind) ?_)
    refine DoLD.call true 108 rfl rfl rfl rfl (by first | exact trivial | omega | (simp; done) | (simp; omega)) (hL1) rfl (by first | exact .inl rfl | exact .inr rfl) rfl ?_
    simp [go_sem]
    repeat (refine And.intro (by first | omega | (intros; omega) | kernel_rfl | grind) ?_)
    try (refine And.intro (by kernel_rfl) ?_)
    apply k2_; clear k2_
    refine Do.seqk fun _ k3_ => ?_
    refine Do.seqk fun _ k4_ => ?_
    refine Do.region [1,2,3,4,5,6,12,14,27] true ?_
    simp [go_sem]
    apply k4_; clear k4_
    refine Do.cond [1,2,3,4,5,6,12,14] rfl (fun g1 => ?_) (fun g1 => ?_) <;> simp [go_sem] at g1 ⊢
    · exact absurd g1 (by omega)
    · refine Do.region [1,2,3,4,5,6,12,14] true ?_
      simp [go_sem]
      apply k3_; clear k3_
      refine Do.seqk fun _ k5_ => ?_
      refine Do.region [1,2,5,6,12,14,15,16] true ?_
      simp [go_sem]
      refine DoL.call true 503 rfl rfl rfl rfl (by first | exact trivial | omega | (simp; done) | (simp; omega)) (hD) rfl (by first | exact .inl rfl | exact .inr rfl) rfl ?_
      simp [go_sem]
      apply k5_; clear k5_
      refine Do.seqk fun _ k6_ => ?_
      refine Do.draw [12,13] true (by kernel_rfl) ?_
      simp [go_sem]
      repeat (refine And.intro (by first | omega | (intros; omega) | kernel_rfl | grind) ?_)
      refine DoLD.call true 609 rfl rfl rfl rfl (by first | exact trivial | omega | (simp; done) | (simp; omega)) (hZ) rfl (by first | exact .inl rfl | exact .inr rfl) rfl ?_
      simp [go_sem]
      repeat (refine And.intro (by first | omega | (intros; omega) | kernel_rfl | grind) ?_)
      refine DoLD.call true 611 rfl rfl rfl rfl (by first | exact trivial | omega | (simp; done) | (simp; omega)) (hF) rfl (by first | exact .inl rfl | exact .inr rfl) rfl ?_
      simp [go_sem]
      repeat (refine And.intro (by first | omega | (intros; omega) | kernel_rfl | grind) ?_)
      try (refine And.intro (by kernel_rfl) ?_)
      apply k6_; clear k6_
      refine Do.ret ?_
      simp [endQ, rets, ret1, go_sem]
      repeat (refine And.intro (by first | omega | (intros; omega) | grind) ?_)
      exact TLe.refl _
/-- A rational number rounded, or the error. -/
def roundD (f p r : Int) (n : Bool) (m d : List Nat) (K : Nat) : Flt × Int × Int :=
  if checkQ r m d ≠ 0 then (⟨0, false, 0, 0⟩, 0, checkQ r m d) else if fmOk f p = false then (⟨0, false, 0, 0⟩, 0, 150)
  else if val m = 0 then (⟨0, false, 0, 0⟩, 0, 0) else ((ratP f p r n (val m) (val d) K).1, (ratP f p r n (val m) (val d) K).2, 0)
theorem RoundD_does {f p r : Int} {n : Bool} {m d : List Nat} (hm : Sh m) (wm : Ws m) (hd : Sh d) (wd : Ws d) {K : Nat} (hK : 300 + bl (val d) ≤ K) : Does Tryz.prog Gv 57 [Fm f p, .c (.i .i64 r), Qr n m d] (Res (roundD f p r n m d K)) := by
  unfold roundD
  by_cases h : checkQ r m d = 0
  · rw [if_neg (by omega)]
    cases hf : fmOk f p with
    | false => rw [if_pos rfl]; exact Round_fmt20 hm hd h hf
    | true =>
      rw [if_neg (by simp)]
      by_cases h0 : val m = 0
      · rw [if_pos h0]; exact Round_zero20 hm hd h hf h0
      · rw [if_neg h0]
        obtain ⟨c1, c2, c3, c4, c5⟩ := checkQ_zero h
        obtain ⟨b1, b2, b3, b4⟩ := fmOk_spec hf
        have hC := @check_does20 r n m d hm hd
        rw [h] at hC
        have hF := @Check_does Gv f p
        rw [if_pos hf] at hF
        have hZ := @Zero_does Gv m hm
        rw [decide_eq_false h0] at hZ
        have hR := @Ratio_does f p r hf c4 c5 n m d c1 wm c2 wd (by omega) (by omega) K (by omega)
        generalize ratP f p r n (val m) (val d) K = z at *
        refine Does.of (nt := 46) Tryz.func57 rfl rfl rfl (by simp) ?_
        simp only [argTm, PV.ext, Ce.ext]
        refine Do.seqk fun _ k1_ => ?_
        refine Do.region [1,3,5,6] true ?_
        simp [go_sem]
        apply k1_; clear k1_
        refine Do.seqk fun _ k2_ => ?_
        refine Do.region [1,3,5,6,9] true ?_
        simp [go_sem]
        repeat (refine And.intro (by first | omega | (intros; omega) | grind) ?_)
        refine DoL.sealS true 103 102 rfl ?_
        simp [go_sem]
        refine DoL.call true 104 rfl rfl rfl rfl (by first | exact trivial | omega | (simp; done) | (simp; omega)) (hC) rfl (by first | exact .inl rfl | exact .inr rfl) rfl ?_
        simp [go_sem]
        apply k2_; clear k2_
        refine Do.seqk fun _ k3_ => ?_
        refine Do.seqk fun _ k4_ => ?_
        refine Do.region [1,3,5,6,9,17] true ?_
        simp [go_sem]
        apply k4_; clear k4_
        refine Do.cond [1,3,5,6,9] rfl (fun g1 => ?_) (fun g1 => ?_) <;> simp [go_sem] at g1 ⊢
        refine Do.region [1,3,5,6,9] true ?_
        simp [go_sem]
        repeat (refine And.intro (by first | omega | (intros; omega) | grind) ?_)
        refine DoL.call true 302 rfl rfl rfl rfl (by first | exact trivial | omega | (simp; done) | (simp; omega)) (hF) rfl (by first | exact .inl rfl | exact .inr rfl) rfl ?_
        simp [go_sem]
        apply k3_; clear k3_
        refine Do.seqk fun _ k5_ => ?_
        refine Do.seqk fun _ k6_ => ?_
        refine Do.region [1,3,5,6,9,27] true ?_
        simp [go_sem]
        repeat (refine And.intro (by first | omega | (intros; omega) | grind) ?_)
        refine DoL.callg true 407 rfl rfl rfl rfl rfl (by simp [go_sem] <;> omega) (fun _ => hZ) rfl (by first | exact .inl rfl | exact .inr rfl) rfl ?_
        simp [go_sem]
        apply k6_; clear k6_
        refine Do.cond [1,3,5,6,9] rfl (fun g2 => ?_) (fun g2 => ?_) <;> simp [go_sem] at g2 ⊢
        refine Do.skip ?_
        simp [go_sem]
        apply k5_; clear k5_
        refine Do.seqk fun _ k7_ => ?_
        refine Do.region [6,10,11] true ?_
        simp [go_sem]
        repeat (refine And.intro (by first | omega | (intros; omega) | grind) ?_)
        refine DoL.call true 611 rfl rfl rfl rfl (by first | exact trivial | omega | (simp; done) | (simp; omega)) (hR) rfl (by first | exact .inl rfl | exact .inr rfl) rfl ?_
        simp [go_sem]
        repeat (refine And.intro (by first | omega | (intros; omega) | grind) ?_)
        apply k7_; clear k7_
        refine Do.seqk fun _ k8_ => ?_
        refine Do.region [6,7,8] true ?_
        simp [go_sem]
        repeat (refine And.intro (by first | omega | (intros; omega) | grind) ?_)
        apply k8_; clear k8_
        refine Do.ret ?_
        simp [endQ, rets, ret1, go_sem]
        repeat (refine And.intro (by first | omega | (intros; omega) | grind) ?_)
        exact TLe.refl _
  · rw [if_pos h]; exact Round_err20 hm hd h
end Go.Proofs.YtokgalpflooegaaGreatDoor
/- Rounded to odd, the program: the plain cases. No condition. -/
namespace Go.Proofs.YtokgalpflooegaaGreatDoor
set_option linter.unusedVariables false
set_option linter.unusedSimpArgs false
set_option maxHeartbeats 8000000
set_option maxRecDepth 10000
/-- A rational number rounded to odd, or the error. -/
def oddD (f p : Int) (n : Bool) (m d : List Nat) (K : Nat) : Flt × Int × Int :=
  if checkQ 2 m d ≠ 0 then (⟨0, false, 0, 0⟩, 0, checkQ 2 m d) else if fmOk f p = false then (⟨0, false, 0, 0⟩, 0, 150)
  else if val m = 0 then (⟨0, false, 0, 0⟩, 0, 0)
  else ((oddP f p n (quoM (val m) (val d) K) (-(K : Int)) (quoS (val m) (val d) K)).1, (oddP f p n (quoM (val m) (val d) K) (-(K : Int)) (quoS (val m) (val d) K)).2, 0)
theorem cmp_eq0 (a b : Nat) : ((if a < b then (-1 : Int) else if b < a then 1 else 0) = 0) ↔ a = b := by split <;> (try split) <;> omega
theorem Odd_same {f p : Int} {n : Bool} {m d : List Nat} {x : Flt × Int × Int} (hR : Does Tryz.prog Gv 57 [Fm f p, .c (.i .i64 2), Qr n m d] (Res x)) (h : x.2.2 ≠ 0 ∨ x.2.1 = 0) : Does Tryz.prog Gv 20 [Fm f p, Qr n m d] (Res x) := by
  by_cases he : x.2.2 = 0
  · have hfl : x.2.1 = 0 := by omega
    have e1 : (x.2.2 != 0) = false := by simp [he]
    have e2 : (x.2.1 == 0) = true := by simp [hfl]
    refine Does.of (nt := 109) Tryz.func20 rfl rfl rfl (by simp) ?_
    simp only [argTm, PV.ext, Ce.ext]
    refine Do.seqk fun _ k1_ => ?_
    refine Do.region [2,3,4] true ?_
    simp [go_sem]
    apply k1_; clear k1_
    refine Do.seqk fun _ k2_ => ?_
    refine Do.region [2,3,4,7,8,9] true ?_
    simp [go_sem]
    repeat (refine And.intro (by first | omega | (intros; omega) | grind) ?_)
    refine DoL.call true 103 rfl rfl rfl rfl (by first | exact trivial | omega | (simp; done) | (simp; omega)) (hR) rfl (by first | exact .inl rfl | exact .inr rfl) rfl ?_
    simp [go_sem]
    repeat (refine And.intro (by first | omega | (intros; omega) | grind) ?_)
    apply k2_; clear k2_
    refine Do.seqk fun _ k3_ => ?_
    refine Do.seqk fun _ k4_ => ?_
    refine Do.region [2,3,4,7,8,9,31] true ?_
    simp [go_sem, e1, e2]
    apply k4_; clear k4_
    refine Do.cond [2,3,4,7,8,9] rfl (fun g1 => ?_) (fun g1 => ?_) <;> simp [go_sem, e1, e2] at g1 ⊢
    refine Do.seqk fun _ k5_ => ?_
    refine Do.region [4,5,6] true ?_
    simp [go_sem, e1, e2]
    repeat (refine And.intro (by first | omega | (intros; omega) | grind) ?_)
    apply k5_; clear k5_
    refine Do.ret ?_
    simp [endQ, rets, ret1, go_sem, e1, e2]
    repeat (refine And.intro (by first | omega | (intros; omega) | grind) ?_)
    exact TLe.refl _
  · have e1 : (x.2.2 != 0) = true := by simp [he]
    refine Does.of (nt := 109) Tryz.func20 rfl rfl rfl (by simp) ?_
    simp only [argTm, PV.ext, Ce.ext]
    refine Do.seqk fun _ k1_ => ?_
    refine Do.region [2,3,4] true ?_
    simp [go_sem]
    apply k1_; clear k1_
    refine Do.seqk fun _ k2_ => ?_
    refine Do.region [2,3,4,7,8,9] true ?_
    simp [go_sem]
    repeat (refine And.intro (by first | omega | (intros; omega) | grind) ?_)
    refine DoL.call true 103 rfl rfl rfl rfl (by first | exact trivial | omega | (simp; done) | (simp; omega)) (hR) rfl (by first | exact .inl rfl | exact .inr rfl) rfl ?_
    simp [go_sem]
    repeat (refine And.intro (by first | omega | (intros; omega) | grind) ?_)
    apply k2_; clear k2_
    refine Do.seqk fun _ k3_ => ?_
    refine Do.seqk fun _ k4_ => ?_
    refine Do.region [2,3,4,7,8,9,31] true ?_
    simp [go_sem, e1]
    apply k4_; clear k4_
    refine Do.cond [2,3,4,7,8,9] rfl (fun g1 => ?_) (fun g1 => ?_) <;> simp [go_sem, e1] at g1 ⊢
    refine Do.seqk fun _ k5_ => ?_
    refine Do.region [4,5,6] true ?_
    simp [go_sem, e1]
    repeat (refine And.intro (by first | omega | (intros; omega) | grind) ?_)
    apply k5_; clear k5_
    refine Do.ret ?_
    simp [endQ, rets, ret1, go_sem, e1]
    repeat (refine And.intro (by first | omega | (intros; omega) | grind) ?_)
    exact TLe.refl _
theorem Odd_top {f p fl : Int} (hf : fmOk f p = true) {n : Bool} {m d : List Nat} (h0 : fl ≠ 0) (hR : Does Tryz.prog Gv 57 [Fm f p, .c (.i .i64 2), Qr n m d] (Res (⟨1, n, gOfE f - p + 1, 2 ^ p.toNat - 1⟩, fl, 0))) : Does Tryz.prog Gv 20 [Fm f p, Qr n m d] (Res (⟨1, n, gOfE f - p + 1, 2 ^ p.toNat - 1⟩, 5, 0)) := by
  obtain ⟨b1, b2, b3, b4⟩ := fmOk_spec hf
  have e2 : (fl == 0) = false := by simp [h0]
  have hG := @Range_does Gv f p hf
  have hL := @Limits_does Gv f p hf
  have hlb : bl (2 ^ p.toNat - 1) ≤ 256 := by
    rw [bl_lt]
    have h1 : 2 ^ p.toNat ≤ 2 ^ 256 := Nat.pow_le_pow_right (by decide) (by omega)
    have := two_pos' p.toNat
    omega
  have hl := len_bl hlb
  have hC := @Cmp_does Gv (nat (2 ^ p.toNat - 1)) (nat (2 ^ p.toNat - 1)) (by unfold Sh; omega) (by unfold Sh; omega) (nat_ws _) (nat_ws _)
  rw [if_neg (Nat.lt_irrefl _), if_neg (Nat.lt_irrefl _)] at hC
  generalize 2 ^ p.toNat - 1 = T at *
  generalize gOfE f - p + 1 = E at *
  generalize 1 - gOfE f = L at *
  generalize L - (p - 1) = L2 at *
  generalize gOfE f = g at *
  refine Does.of (nt := 109) Tryz.func20 rfl rfl rfl (by simp) ?_
  simp only [argTm, PV.ext, Ce.ext]
  refine Do.seqk fun _ k1_ => ?_
  refine Do.region [2,3,4] true ?_
  simp [go_sem]
  apply k1_; clear k1_
  refine Do.seqk fun _ k2_ => ?_
  refine Do.region [2,3,4,7,8,9] true ?_
  simp [go_sem]
  repeat (refine And.intro (by first | omega | (intros; omega) | grind) ?_)
  refine DoL.call true 103 rfl rfl rfl rfl (by first | exact trivial | omega | (simp; done) | (simp; omega)) (hR) rfl (by first | exact .inl rfl | exact .inr rfl) rfl ?_
  simp [go_sem]
  repeat (refine And.intro (by first | omega | (intros; omega) | grind) ?_)
  apply k2_; clear k2_
  refine Do.seqk fun _ k3_ => ?_
  refine Do.seqk fun _ k4_ => ?_
  refine Do.region [2,3,4,7,8,9,31] true ?_
  simp [go_sem, e2]
  apply k4_; clear k4_
  refine Do.cond [2,3,4,7,8,9] rfl (fun g1 => ?_) (fun g1 => ?_) <;> simp [go_sem, e2] at g1 ⊢
  refine Do.skip ?_
  simp [go_sem]
  apply k3_; clear k3_
  refine Do.seqk fun _ k5_ => ?_
  refine Do.region [2,3,4,7,8,10] true ?_
  simp [go_sem, e2]
  repeat (refine And.intro (by first | omega | (intros; omega) | grind) ?_)
  refine DoL.call true 402 rfl rfl rfl rfl (by first | exact trivial | omega | (simp; done) | (simp; omega)) (hG) rfl (by first | exact .inl rfl | exact .inr rfl) rfl ?_
  simp [go_sem, e2]
  apply k5_; clear k5_
  refine Do.seqk fun _ k6_ => ?_
  refine Do.seqk fun _ k7_ => ?_
  refine Do.region [2,3,4,7,8,10,14] true ?_
  simp [go_sem, e2]
  repeat (refine And.intro (by first | omega | (intros; omega) | grind) ?_)
  refine DoL.call true 502 rfl rfl rfl rfl (by first | exact trivial | omega | (simp; done) | (simp; omega)) (hL) rfl (by first | exact .inl rfl | exact .inr rfl) rfl ?_
  simp [go_sem, e2]
  repeat (refine And.intro (by first | omega | (intros; omega) | grind) ?_)
  apply k7_; clear k7_
  refine Do.seqk fun _ k8_ => ?_
  refine Do.region [2,3,4,7,8,10,66] true ?_
  simp [go_sem, e2]
  repeat (refine And.intro (by first | omega | (intros; omega) | grind) ?_)
  refine DoL.callg true 616 rfl rfl rfl rfl rfl (by simp [go_sem] <;> omega) (fun _ => hC) rfl (by first | exact .inl rfl | exact .inr rfl) rfl ?_
  simp [go_sem, e2]
  apply k8_; clear k8_
  refine Do.cond [2,3,4,7,8,10] rfl (fun g2 => ?_) (fun g2 => ?_) <;> simp [go_sem, e2] at g2 ⊢
  refine Do.seqk fun _ k9_ => ?_
  refine Do.region [4,5,6] true ?_
  simp [go_sem, e2]
  repeat (refine And.intro (by first | omega | (intros; omega) | grind) ?_)
  apply k9_; clear k9_
  refine Do.ret ?_
  simp [endQ, rets, ret1, go_sem, e2]
  repeat (refine And.intro (by first | omega | (intros; omega) | grind) ?_)
  exact TLe.refl _
end Go.Proofs.YtokgalpflooegaaGreatDoor
/- Rounded to odd, the program: what is less than the least float. No condition. -/
namespace Go.Proofs.YtokgalpflooegaaGreatDoor
set_option linter.unusedVariables false
set_option linter.unusedSimpArgs false
set_option maxHeartbeats 8000000
set_option maxRecDepth 10000
theorem Odd_zero {f p fl : Int} (hf : fmOk f p = true) {n : Bool} {m d : List Nat} (h0 : fl ≠ 0) (hR : Does Tryz.prog Gv 57 [Fm f p, .c (.i .i64 2), Qr n m d] (Res (⟨0, n, 0, 0⟩, fl, 0))) : Does Tryz.prog Gv 20 [Fm f p, Qr n m d] (Res (mkP n 1 (1 - gOfE f - (p - 1)), fl, 0)) := by
  obtain ⟨b1, b2, b3, b4⟩ := fmOk_spec hf
  obtain ⟨b5, b6⟩ := gOfE_le b1 b2
  have e2 : (fl == 0) = false := by simp [h0]
  have hG := @Range_does Gv f p hf
  have hL := @Limits_does Gv f p hf
  have hS := @Step_does Gv f p (1 - gOfE f) hf (by omega) (by omega)
  have e3 : stepP f p (1 - gOfE f) = 1 - gOfE f - (p - 1) := by unfold stepP; rw [if_neg (by omega)]; omega
  rw [e3] at hS
  have hR : Does Tryz.prog Gv 57 [Fm f p, .c (.i .i64 2), Qr n m d] (.t [Fl 0 n 0 (nat 0), .c (.i .i64 fl), .c (.i .i64 0)]) := hR
  obtain ⟨s, hs⟩ : ∃ s : Nat, max 0 (0 - (1 - gOfE f - (p - 1))) = s := ⟨(0 - (1 - gOfE f - (p - 1))).toNat, by omega⟩
  have hSh := @Shl_does Gv (nat 0) (by rw [nat_zero]; decide) (nat_ws _) s (by rw [nat_zero]; simp; omega)
  rw [val_nat, Nat.zero_mul] at hSh
  have hA := @Add_does Gv (nat 0) [1] (by rw [nat_zero]; decide) (by decide) (nat_ws _) (ws_one (by decide)) (by rw [nat_zero]; decide) (by decide)
  rw [val_nat, show 0 + val [1] = 1 from rfl] at hA
  have hM := @Make_does n (nat 1) (1 - gOfE f - (p - 1)) (by rw [nat_one]; decide) (nat_ws _) (by omega) (by omega)
  rw [val_nat] at hM
  have hs2 : max 0 (-(1 - gOfE f - (p - 1))) = (s : Int) := by omega
  have hs3 : -(1 - gOfE f - (p - 1)) = (s : Int) := by omega
  have hpos : (0 : Int) > (1 - gOfE f - (p - 1)) := by omega
  have hsb : s ≤ 100000 := by omega
  have hif : (if 0 < s then (s : Int) else 0) = s := by split <;> omega
  generalize hu : 1 - gOfE f - (p - 1) = u at *
  generalize mkP n 1 u = y at *
  generalize 1 - gOfE f = L at *
  generalize gOfE f - p + 1 = E at *
  generalize 2 ^ p.toNat - 1 = T at *
  generalize gOfE f = g at *
  refine Does.of (nt := 109) Tryz.func20 rfl rfl rfl (by simp) ?_
  simp only [argTm, PV.ext, Ce.ext]
  refine Do.seqk fun _ k1_ => ?_
  refine Do.region [2,3,4] true ?_
  simp [go_sem]
  apply k1_; clear k1_
  refine Do.seqk fun _ k2_ => ?_
  refine Do.region [2,3,4,7,8,9] true ?_
  simp [go_sem]
  repeat (refine And.intro (by first | omega | (intros; omega) | grind) ?_)
  refine DoL.call true 103 rfl rfl rfl rfl (by first | exact trivial | omega | (simp; done) | (simp; omega)) (hR) rfl (by first | exact .inl rfl | exact .inr rfl) rfl ?_
  simp [go_sem]
  repeat (refine And.intro (by first | omega | (intros; omega) | grind) ?_)
  apply k2_; clear k2_
  refine Do.seqk fun _ k3_ => ?_
  refine Do.seqk fun _ k4_ => ?_
  refine Do.region [2,3,4,7,8,9,31] true ?_
  simp [go_sem, e2]
  apply k4_; clear k4_
  refine Do.cond [2,3,4,7,8,9] rfl (fun g1 => ?_) (fun g1 => ?_) <;> simp [go_sem, e2] at g1 ⊢
  refine Do.skip ?_
  simp [go_sem]
  apply k3_; clear k3_
  refine Do.seqk fun _ k5_ => ?_
  refine Do.region [2,3,4,7,8,10] true ?_
  simp [go_sem, e2]
  repeat (refine And.intro (by first | omega | (intros; omega) | grind) ?_)
  refine DoL.call true 402 rfl rfl rfl rfl (by first | exact trivial | omega | (simp; done) | (simp; omega)) (hG) rfl (by first | exact .inl rfl | exact .inr rfl) rfl ?_
  simp [go_sem, e2]
  apply k5_; clear k5_
  refine Do.seqk fun _ k6_ => ?_
  refine Do.seqk fun _ k7_ => ?_
  refine Do.region [2,3,4,7,8,10,14] true ?_
  simp [go_sem, e2]
  repeat (refine And.intro (by first | omega | (intros; omega) | grind) ?_)
  refine DoL.call true 502 rfl rfl rfl rfl (by first | exact trivial | omega | (simp; done) | (simp; omega)) (hL) rfl (by first | exact .inl rfl | exact .inr rfl) rfl ?_
  simp [go_sem, e2]
  repeat (refine And.intro (by first | omega | (intros; omega) | grind) ?_)
  apply k7_; clear k7_
  refine Do.seqk fun _ k8_ => ?_
  refine Do.region [2,3,4,7,8,10,66] true ?_
  simp [go_sem, e2]
  repeat (refine And.intro (by first | omega | (intros; omega) | grind) ?_)
  refine DoL.gOff true 616 rfl rfl (.int .i64 0) rfl ?_
  simp [go_sem, e2]
  apply k8_; clear k8_
  refine Do.cond [2,3,4,7,8,10] rfl (fun g2 => ?_) (fun g2 => ?_) <;> simp [go_sem, e2] at g2 ⊢
  refine Do.skip ?_
  simp [go_sem]
  apply k6_; clear k6_
  refine Do.seqk fun _ k9_ => ?_
  refine Do.region [2,3,4,7,8,18] true ?_
  simp [go_sem, e2]
  repeat (refine And.intro (by first | omega | (intros; omega) | grind) ?_)
  refine DoL.call true 803 rfl rfl rfl rfl (by first | exact trivial | omega | (simp; done) | (simp; omega)) (hS) rfl (by first | exact .inl rfl | exact .inr rfl) rfl ?_
  simp [go_sem, e2]
  apply k9_; clear k9_
  refine Do.seqk fun _ k10_ => ?_
  refine Do.seqk fun _ k11_ => ?_
  refine Do.region [2,3,4,7,8,18,73] true ?_
  simp [go_sem, e2]
  repeat (refine And.intro (by first | omega | (intros; omega) | grind) ?_)
  apply k11_; clear k11_
  refine Do.cond [2,3,4,7,8,18] rfl (fun g3 => ?_) (fun g3 => ?_) <;> simp [go_sem, e2] at g3 ⊢
  refine Do.skip ?_
  simp [go_sem]
  apply k10_; clear k10_
  refine Do.seqk fun _ k12_ => ?_
  refine Do.seqk fun _ k13_ => ?_
  refine Do.region [3,4,7,8,18,91] true ?_
  simp [go_sem, e2]
  repeat (refine And.intro (by first | omega | (intros; omega) | grind) ?_)
  apply k13_; clear k13_
  refine Do.cond [3,4,7,8,18] rfl (fun g4 => ?_) (fun g4 => ?_) <;> simp [go_sem, e2] at g4 ⊢
  refine Do.draw [4,7,8] true (by kernel_rfl) ?_
  simp [go_sem, hs, hs2, hs3, hif]
  repeat (refine And.intro (by first | omega | (intros; omega) | kernel_rfl | grind) ?_)
  refine DoLD.call true 1211 rfl rfl rfl rfl (by first | exact trivial | omega | (simp; done) | (simp; omega)) (hSh) rfl (by first | exact .inl rfl | exact .inr rfl) rfl ?_
  simp [go_sem, hs, hs2, hs3, hif]
  refine DoLD.call true 1213 rfl rfl rfl rfl (by first | exact trivial | omega | (simp; done) | (simp; omega)) (hA) rfl (by first | exact .inl rfl | exact .inr rfl) rfl ?_
  simp [go_sem, hs, hs2, hs3, hif]
  refine DoLD.call true 1215 rfl rfl rfl rfl (by first | exact trivial | omega | (simp; done) | (simp; omega)) (hM) rfl (by first | exact .inl rfl | exact .inr rfl) rfl ?_
  simp [go_sem, hs, hs2, hs3, hif]
  repeat (refine And.intro (by first | omega | (intros; omega) | kernel_rfl | grind) ?_)
  try (refine And.intro (by kernel_rfl) ?_)
  apply k12_; clear k12_
  refine Do.seqk fun _ k14_ => ?_
  refine Do.region [4,5,6] true ?_
  simp [go_sem, hs, hs2, hs3, hif]
  repeat (refine And.intro (by first | omega | (intros; omega) | grind) ?_)
  apply k14_; clear k14_
  refine Do.ret ?_
  simp [endQ, rets, ret1, go_sem, hs, hs2, hs3, hif]
  repeat (refine And.intro (by first | omega | (intros; omega) | grind) ?_)
  exact TLe.refl _
end Go.Proofs.YtokgalpflooegaaGreatDoor
/- Rounded to odd, the program: a float. No condition. -/
namespace Go.Proofs.YtokgalpflooegaaGreatDoor
set_option linter.unusedVariables false
set_option linter.unusedSimpArgs false
set_option maxHeartbeats 8000000
set_option maxRecDepth 10000
theorem Odd_fin {f p fl : Int} (hf : fmOk f p = true) {n : Bool} {m d : List Nat} (h0 : fl ≠ 0) {c : Nat} {u : Int} (hc0 : c ≠ 0) (hcb : (bl c : Int) ≤ p) (hu1 : -100000 ≤ u) (hu2 : u ≤ 100000) (hst : stepP f p (u + bl c - 1) = u) (hnt : ¬ (c = 2 ^ p.toNat - 1 ∧ u = gOfE f - p + 1)) (hR : Does Tryz.prog Gv 57 [Fm f p, .c (.i .i64 2), Qr n m d] (Res (mkP n c u, fl, 0))) : Does Tryz.prog Gv 20 [Fm f p, Qr n m d] (Res (mkP n (oddN c) u, fl, 0)) := by
  obtain ⟨b1, b2, b3, b4⟩ := fmOk_spec hf
  obtain ⟨b5, b6⟩ := gOfE_le b1 b2
  have e2 : (fl == 0) = false := by simp [h0]
  have hG := @Range_does Gv f p hf
  have hL := @Limits_does Gv f p hf
  have hS := @Step_does Gv f p (1 - gOfE f) hf (by omega) (by omega)
  have e3 : stepP f p (1 - gOfE f) = 1 - gOfE f - (p - 1) := by unfold stepP; rw [if_neg (by omega)]; omega
  rw [e3] at hS
  have hcl : c < 2 ^ p.toNat := bl_full (by omega)
  have hmt := (@mk_top n c p.toNat u (gOfE f - p + 1) (by omega) hcl)
  have hk : (mkP n c u) = ⟨1, n, u + tz c, c / 2 ^ tz c⟩ := by unfold mkP; rw [if_neg hc0]
  rw [hk] at hmt hR
  have hnt2 := fun h => hnt (hmt.1 h)
  simp only [true_and] at hnt2
  have htz := tz_lt_bl (Nat.pos_of_ne_zero hc0)
  have hbv : bl (c / 2 ^ tz c) = bl c - tz c := bl_div c (tz c)
  have hVl := len_bl (show bl (c / 2 ^ tz c) ≤ 256 by omega)
  have hlb : bl (2 ^ p.toNat - 1) ≤ 256 := by
    rw [bl_lt]
    have h1 : 2 ^ p.toNat ≤ 2 ^ 256 := Nat.pow_le_pow_right (by decide) (by omega)
    have := two_pos' p.toNat
    omega
  have hl := len_bl hlb
  have hC := @Cmp_does Gv (nat (c / 2 ^ tz c)) (nat (2 ^ p.toNat - 1)) (by unfold Sh; omega) (by unfold Sh; omega) (nat_ws _) (nat_ws _)
  rw [val_nat, val_nat] at hC
  have hcz := cmp_eq0 (c / 2 ^ tz c) (2 ^ p.toNat - 1)
  have hN := @Len_does Gv (nat (c / 2 ^ tz c)) (by unfold Sh; omega) (nat_ws _)
  rw [val_nat, hbv] at hN
  have hS2 := @Step_does Gv f p (u + bl c - 1) hf (by omega) (by omega)
  rw [hst] at hS2
  have hsum : u + (tz c : Int) + ((bl c - tz c : Nat) : Int) - 1 = u + bl c - 1 := by omega
  obtain ⟨mm, hmm⟩ := tz_form (Nat.pos_of_ne_zero hc0)
  have hq : c / 2 ^ tz c = 2 * mm + 1 := by
    conv => lhs; arg 1; rw [hmm]
    exact Nat.mul_div_cancel_left _ (two_pos' _)
  have hback : c / 2 ^ tz c * 2 ^ tz c = c := by rw [hq, Nat.mul_comm]; exact hmm.symm
  have hSh := @Shl_does Gv (nat (c / 2 ^ tz c)) (by unfold Sh; omega) (nat_ws _) (tz c) (by omega)
  rw [val_nat, hback] at hSh
  have hcl2 := len_bl (show bl c ≤ 256 by omega)
  have hA := @Add_does Gv (nat c) [1] (by unfold Sh; omega) (by decide) (nat_ws _) (ws_one (by decide)) (by omega) (by decide)
  rw [val_nat, show c + val [1] = c + 1 from rfl] at hA
  have hcl3 := len_bl (show bl (c + 1) ≤ 257 by have := bl_add_le c 1 256 (by omega) (by decide); omega)
  have hM := @Make_does n (nat (c + 1)) u (by unfold Sh; omega) (nat_ws _) (by omega) (by omega)
  rw [val_nat] at hM
  have hpar : c % 2 = 1 ↔ tz c = 0 := by
    constructor
    · exact tz_odd1
    · intro h; rw [h, Nat.pow_zero, Nat.div_one] at hq; omega
  by_cases hodd : c % 2 = 1
  · have ht := hpar.1 hodd
    have e4 : oddN c = c := by unfold oddN; rw [if_pos hodd]
    rw [e4, hk]
    generalize c / 2 ^ tz c = V at *
    rw [ht] at *
    rw [show u + ((0 : Nat) : Int) = u by omega] at *
    have hsum2 : u + ((bl c - 0 : Nat) : Int) - 1 = u + bl c - 1 := by omega
    generalize (if V < 2 ^ p.toNat - 1 then (-1 : Int) else if 2 ^ p.toNat - 1 < V then 1 else 0) = cm at *
    generalize 2 ^ p.toNat - 1 = T at *
    generalize gOfE f - p + 1 = E at *
    generalize 1 - gOfE f = L at *
    generalize L - (p - 1) = L2 at *
    generalize gOfE f = g at *
    have hno : ¬ (u = E ∧ cm = 0) := fun h => hnt2 ⟨h.1, hcz.1 h.2⟩
    refine Does.of (nt := 109) Tryz.func20 rfl rfl rfl (by simp) ?_
    simp only [argTm, PV.ext, Ce.ext]
    refine Do.seqk fun _ k1_ => ?_
    refine Do.region [2,3,4] true ?_
    simp [go_sem]
    apply k1_; clear k1_
    refine Do.seqk fun _ k2_ => ?_
    refine Do.region [2,3,4,7,8,9] true ?_
    simp [go_sem]
    repeat (refine And.intro (by first | omega | (intros; omega) | grind) ?_)
    refine DoL.call true 103 rfl rfl rfl rfl (by first | exact trivial | omega | (simp; done) | (simp; omega)) (hR) rfl (by first | exact .inl rfl | exact .inr rfl) rfl ?_
    simp [go_sem]
    repeat (refine And.intro (by first | omega | (intros; omega) | grind) ?_)
    apply k2_; clear k2_
    refine Do.seqk fun _ k3_ => ?_
    refine Do.seqk fun _ k4_ => ?_
    refine Do.region [2,3,4,7,8,9,31] true ?_
    simp [go_sem, e2]
    apply k4_; clear k4_
    refine Do.cond [2,3,4,7,8,9] rfl (fun g1 => ?_) (fun g1 => ?_) <;> simp [go_sem, e2] at g1 ⊢
    refine Do.skip ?_
    simp [go_sem]
    apply k3_; clear k3_
    refine Do.seqk fun _ k5_ => ?_
    refine Do.region [2,3,4,7,8,10] true ?_
    simp [go_sem, e2]
    repeat (refine And.intro (by first | omega | (intros; omega) | grind) ?_)
    refine DoL.call true 402 rfl rfl rfl rfl (by first | exact trivial | omega | (simp; done) | (simp; omega)) (hG) rfl (by first | exact .inl rfl | exact .inr rfl) rfl ?_
    simp [go_sem, e2]
    apply k5_; clear k5_
    refine Do.seqk fun _ k6_ => ?_
    refine Do.seqk fun _ k7_ => ?_
    refine Do.region [2,3,4,7,8,10,14] true ?_
    simp [go_sem, e2]
    repeat (refine And.intro (by first | omega | (intros; omega) | grind) ?_)
    refine DoL.call true 502 rfl rfl rfl rfl (by first | exact trivial | omega | (simp; done) | (simp; omega)) (hL) rfl (by first | exact .inl rfl | exact .inr rfl) rfl ?_
    simp [go_sem, e2]
    repeat (refine And.intro (by first | omega | (intros; omega) | grind) ?_)
    apply k7_; clear k7_
    refine Do.seqk fun _ k8_ => ?_
    refine Do.region [2,3,4,7,8,10,66] true ?_
    simp [go_sem, e2]
    repeat (refine And.intro (by first | omega | (intros; omega) | grind) ?_)
    refine DoL.callg true 616 rfl rfl rfl rfl rfl (by simp [go_sem] <;> omega) (fun _ => hC) rfl (by first | exact .inl rfl | exact .inr rfl) rfl ?_
    simp [go_sem, e2]
    apply k8_; clear k8_
    refine Do.cond [2,3,4,7,8,10] rfl (fun g2 => ?_) (fun g2 => ?_) <;> simp [go_sem, e2] at g2 ⊢
    · exact absurd g2 hno
    · refine Do.skip ?_
      simp [go_sem]
      apply k6_; clear k6_
      refine Do.seqk fun _ k9_ => ?_
      refine Do.region [2,3,4,7,8,18] true ?_
      simp [go_sem, e2]
      repeat (refine And.intro (by first | omega | (intros; omega) | grind) ?_)
      refine DoL.call true 803 rfl rfl rfl rfl (by first | exact trivial | omega | (simp; done) | (simp; omega)) (hS) rfl (by first | exact .inl rfl | exact .inr rfl) rfl ?_
      simp [go_sem, e2]
      apply k9_; clear k9_
      refine Do.seqk fun _ k10_ => ?_
      refine Do.seqk fun _ k11_ => ?_
      refine Do.region [2,3,4,7,8,18,73] true ?_
      simp [go_sem, e2]
      repeat (refine And.intro (by first | omega | (intros; omega) | grind) ?_)
      apply k11_; clear k11_
      refine Do.cond [2,3,4,7,8,18] rfl (fun g3 => ?_) (fun g3 => ?_) <;> simp [go_sem, e2] at g3 ⊢
      refine Do.draw [3,4,7,8,18] true (by kernel_rfl) ?_
      simp [go_sem, e2]
      repeat (refine And.intro (by first | omega | (intros; omega) | kernel_rfl | grind) ?_)
      refine DoLD.call true 1006 rfl rfl rfl rfl (by first | exact trivial | omega | (simp; done) | (simp; omega)) (hN) rfl (by first | exact .inl rfl | exact .inr rfl) rfl ?_
      simp [go_sem, e2]
      repeat (refine And.intro (by first | omega | (intros; omega) | kernel_rfl | grind) ?_)
      refine DoLD.call true 1009 rfl rfl rfl rfl (by first | exact trivial | omega | (simp; done) | (simp; omega)) (hS2) rfl (by first | exact .inl rfl | exact .inr rfl) rfl ?_
      simp [go_sem, hsum2]
      try (refine And.intro (by kernel_rfl) ?_)
      apply k10_; clear k10_
      refine Do.seqk fun _ k12_ => ?_
      refine Do.seqk fun _ k13_ => ?_
      refine Do.region [3,4,7,8,18,91] true ?_
      simp [go_sem, hsum2]
      repeat (refine And.intro (by first | omega | (intros; omega) | grind) ?_)
      apply k13_; clear k13_
      refine Do.cond [3,4,7,8,18] rfl (fun g4 => ?_) (fun g4 => ?_) <;> simp [go_sem, hsum2] at g4 ⊢
      refine Do.skip ?_
      simp [go_sem]
      apply k12_; clear k12_
      refine Do.seqk fun _ k14_ => ?_
      refine Do.region [4,5,6] true ?_
      simp [go_sem, hsum2]
      repeat (refine And.intro (by first | omega | (intros; omega) | grind) ?_)
      apply k14_; clear k14_
      refine Do.ret ?_
      simp [endQ, rets, ret1, go_sem, hsum2]
      repeat (refine And.intro (by first | omega | (intros; omega) | grind) ?_)
      exact TLe.refl _
  · have ht : 0 < tz c := Nat.pos_of_ne_zero fun h => hodd (hpar.2 h)
    have e4 : oddN c = c + 1 := by unfold oddN; rw [if_neg hodd]
    rw [e4]
    generalize mkP n (c + 1) u = y at *
    generalize c / 2 ^ tz c = V at *
    generalize (if V < 2 ^ p.toNat - 1 then (-1 : Int) else if 2 ^ p.toNat - 1 < V then 1 else 0) = cm at *
    generalize 2 ^ p.toNat - 1 = T at *
    generalize gOfE f - p + 1 = E at *
    generalize 1 - gOfE f = L at *
    generalize L - (p - 1) = L2 at *
    generalize gOfE f = g at *
    have hno : ¬ (u + (tz c : Int) = E ∧ cm = 0) := fun h => hnt2 ⟨h.1, hcz.1 h.2⟩
    have hgt : u < u + (tz c : Int) := by omega
    have hdiff : u + (tz c : Int) - u = tz c := by omega
    have hmax : max 0 (tz c : Int) = tz c := by omega
    have hif : (if 0 < tz c then (tz c : Int) else 0) = tz c := by split <;> omega
    refine Does.of (nt := 109) Tryz.func20 rfl rfl rfl (by simp) ?_
    simp only [argTm, PV.ext, Ce.ext]
    refine Do.seqk fun _ k1_ => ?_
    refine Do.region [2,3,4] true ?_
    simp [go_sem]
    apply k1_; clear k1_
    refine Do.seqk fun _ k2_ => ?_
    refine Do.region [2,3,4,7,8,9] true ?_
    simp [go_sem]
    repeat (refine And.intro (by first | omega | (intros; omega) | grind) ?_)
    refine DoL.call true 103 rfl rfl rfl rfl (by first | exact trivial | omega | (simp; done) | (simp; omega)) (hR) rfl (by first | exact .inl rfl | exact .inr rfl) rfl ?_
    simp [go_sem]
    repeat (refine And.intro (by first | omega | (intros; omega) | grind) ?_)
    apply k2_; clear k2_
    refine Do.seqk fun _ k3_ => ?_
    refine Do.seqk fun _ k4_ => ?_
    refine Do.region [2,3,4,7,8,9,31] true ?_
    simp [go_sem, e2]
    apply k4_; clear k4_
    refine Do.cond [2,3,4,7,8,9] rfl (fun g1 => ?_) (fun g1 => ?_) <;> simp [go_sem, e2] at g1 ⊢
    refine Do.skip ?_
    simp [go_sem]
    apply k3_; clear k3_
    refine Do.seqk fun _ k5_ => ?_
    refine Do.region [2,3,4,7,8,10] true ?_
    simp [go_sem, e2]
    repeat (refine And.intro (by first | omega | (intros; omega) | grind) ?_)
    refine DoL.call true 402 rfl rfl rfl rfl (by first | exact trivial | omega | (simp; done) | (simp; omega)) (hG) rfl (by first | exact .inl rfl | exact .inr rfl) rfl ?_
    simp [go_sem, e2]
    apply k5_; clear k5_
    refine Do.seqk fun _ k6_ => ?_
    refine Do.seqk fun _ k7_ => ?_
    refine Do.region [2,3,4,7,8,10,14] true ?_
    simp [go_sem, e2]
    repeat (refine And.intro (by first | omega | (intros; omega) | grind) ?_)
    refine DoL.call true 502 rfl rfl rfl rfl (by first | exact trivial | omega | (simp; done) | (simp; omega)) (hL) rfl (by first | exact .inl rfl | exact .inr rfl) rfl ?_
    simp [go_sem, e2]
    repeat (refine And.intro (by first | omega | (intros; omega) | grind) ?_)
    apply k7_; clear k7_
    refine Do.seqk fun _ k8_ => ?_
    refine Do.region [2,3,4,7,8,10,66] true ?_
    simp [go_sem, e2]
    repeat (refine And.intro (by first | omega | (intros; omega) | grind) ?_)
    refine DoL.callg true 616 rfl rfl rfl rfl rfl (by simp [go_sem] <;> omega) (fun _ => hC) rfl (by first | exact .inl rfl | exact .inr rfl) rfl ?_
    simp [go_sem, e2]
    apply k8_; clear k8_
    refine Do.cond [2,3,4,7,8,10] rfl (fun g2 => ?_) (fun g2 => ?_) <;> simp [go_sem, e2] at g2 ⊢
    · exact absurd g2 hno
    · refine Do.skip ?_
      simp [go_sem]
      apply k6_; clear k6_
      refine Do.seqk fun _ k9_ => ?_
      refine Do.region [2,3,4,7,8,18] true ?_
      simp [go_sem, e2]
      repeat (refine And.intro (by first | omega | (intros; omega) | grind) ?_)
      refine DoL.call true 803 rfl rfl rfl rfl (by first | exact trivial | omega | (simp; done) | (simp; omega)) (hS) rfl (by first | exact .inl rfl | exact .inr rfl) rfl ?_
      simp [go_sem, e2]
      apply k9_; clear k9_
      refine Do.seqk fun _ k10_ => ?_
      refine Do.seqk fun _ k11_ => ?_
      refine Do.region [2,3,4,7,8,18,73] true ?_
      simp [go_sem, e2]
      repeat (refine And.intro (by first | omega | (intros; omega) | grind) ?_)
      apply k11_; clear k11_
      refine Do.cond [2,3,4,7,8,18] rfl (fun g3 => ?_) (fun g3 => ?_) <;> simp [go_sem, e2] at g3 ⊢
      refine Do.draw [3,4,7,8,18] true (by kernel_rfl) ?_
      simp [go_sem, hsum]
      repeat (refine And.intro (by first | omega | (intros; omega) | kernel_rfl | grind) ?_)
      refine DoLD.call true 1006 rfl rfl rfl rfl (by first | exact trivial | omega | (simp; done) | (simp; omega)) (hN) rfl (by first | exact .inl rfl | exact .inr rfl) rfl ?_
      simp [go_sem, hsum]
      repeat (refine And.intro (by first | omega | (intros; omega) | kernel_rfl | grind) ?_)
      refine DoLD.call true 1009 rfl rfl rfl rfl (by first | exact trivial | omega | (simp; done) | (simp; omega)) (hS2) rfl (by first | exact .inl rfl | exact .inr rfl) rfl ?_
      simp [go_sem, hsum]
      try (refine And.intro (by kernel_rfl) ?_)
      apply k10_; clear k10_
      refine Do.seqk fun _ k12_ => ?_
      refine Do.seqk fun _ k13_ => ?_
      refine Do.region [3,4,7,8,18,91] true ?_
      simp [go_sem, hsum]
      repeat (refine And.intro (by first | omega | (intros; omega) | grind) ?_)
      apply k13_; clear k13_
      refine Do.cond [3,4,7,8,18] rfl (fun g4 => ?_) (fun g4 => ?_) <;> simp [go_sem, hsum] at g4 ⊢
      · refine Do.draw [4,7,8] true (by kernel_rfl) ?_
        simp [go_sem, hdiff, hmax, hif]
        repeat (refine And.intro (by first | omega | (intros; omega) | kernel_rfl | grind) ?_)
        refine DoLD.call true 1211 rfl rfl rfl rfl (by first | exact trivial | omega | (simp; done) | (simp; omega)) (hSh) rfl (by first | exact .inl rfl | exact .inr rfl) rfl ?_
        simp [go_sem, hdiff, hmax, hif]
        refine DoLD.call true 1213 rfl rfl rfl rfl (by first | exact trivial | omega | (simp; done) | (simp; omega)) (hA) rfl (by first | exact .inl rfl | exact .inr rfl) rfl ?_
        simp [go_sem, hdiff, hmax, hif]
        refine DoLD.call true 1215 rfl rfl rfl rfl (by first | exact trivial | omega | (simp; done) | (simp; omega)) (hM) rfl (by first | exact .inl rfl | exact .inr rfl) rfl ?_
        simp [go_sem, hdiff, hmax, hif]
        repeat (refine And.intro (by first | omega | (intros; omega) | kernel_rfl | grind) ?_)
        try (refine And.intro (by kernel_rfl) ?_)
        apply k12_; clear k12_
        refine Do.seqk fun _ k14_ => ?_
        refine Do.region [4,5,6] true ?_
        simp [go_sem, hdiff, hmax, hif]
        repeat (refine And.intro (by first | omega | (intros; omega) | grind) ?_)
        apply k14_; clear k14_
        refine Do.ret ?_
        simp [endQ, rets, ret1, go_sem, hdiff, hmax, hif]
        repeat (refine And.intro (by first | omega | (intros; omega) | grind) ?_)
        exact TLe.refl _
      · omega
end Go.Proofs.YtokgalpflooegaaGreatDoor
/- Rounded to odd, the program. No condition. -/
namespace Go.Proofs.YtokgalpflooegaaGreatDoor
set_option linter.unusedVariables false
set_option linter.unusedSimpArgs false
set_option maxHeartbeats 8000000
set_option maxRecDepth 10000
theorem Odd_does {f p : Int} {n : Bool} {m d : List Nat} (hm : Sh m) (wm : Ws m) (hd : Sh d) (wd : Ws d) {K : Nat} (hK : 300 + bl (val d) ≤ K) : Does Tryz.prog Gv 20 [Fm f p, Qr n m d] (Res (oddD f p n m d K)) := by
  have hR := @RoundD_does f p 2 n m d hm wm hd wd K hK
  unfold roundD at hR
  unfold oddD
  by_cases h : checkQ 2 m d = 0
  · rw [if_neg (by omega)] at hR ⊢
    cases hf : fmOk f p with
    | false =>
      rw [hf, if_pos rfl] at hR
      rw [if_pos rfl]
      exact Odd_same hR (.inl (by simp))
    | true =>
      rw [hf, if_neg (by simp)] at hR
      rw [if_neg (by simp)]
      by_cases h0 : val m = 0
      · rw [if_pos h0] at hR ⊢
        exact Odd_same hR (.inr rfl)
      · rw [if_neg h0] at hR ⊢
        obtain ⟨c1, c2, c3, c4, c5⟩ := checkQ_zero h
        obtain ⟨b1, b2, b3, b4⟩ := fmOk_spec hf
        obtain ⟨b5, b6⟩ := gOfE_le b1 b2
        have hen := @quo_enough (val m) (val d) K p (by omega) (by omega) (by omega) (by omega)
        unfold ratP at hR
        obtain ⟨r1, r2⟩ := @round_two f p hf n (quoM (val m) (val d) K) (-(K : Int)) (quoS (val m) (val d) K) (by omega)
        obtain ⟨f1, f2, f3, f4, f5, f6, f7⟩ := @cut_facts f p hf (quoM (val m) (val d) K) (-(K : Int)) (quoS (val m) (val d) K) (by omega)
        have hstep : stepP f p (-(K : Int) + bl (quoM (val m) (val d) K) - 1) = if -(K : Int) + bl (quoM (val m) (val d) K) - 1 < 1 - gOfE f then 1 - gOfE f - (p - 1) else -(K : Int) + bl (quoM (val m) (val d) K) - 1 - p + 1 := rfl
        unfold oddP
        simp only []
        generalize quoS (val m) (val d) K = st at *
        generalize quoM (val m) (val d) K = M at *
        by_cases hE : gOfE f < -(K : Int) + bl M - 1
        · rw [r1 hE] at hR
          rw [if_pos hE]
          exact Odd_top hf (show (5 : Int) ≠ 0 by decide) hR
        · rw [r2 (by omega)] at hR
          rw [if_neg hE]
          generalize hEE : -(K : Int) + (bl M : Int) - 1 = E at *
          generalize hu : stepP f p E = u at *
          generalize cutP M (u - -(K : Int)) st = c at *
          by_cases hx : c.2 = 0
          · rw [if_pos hx] at hR ⊢
            exact Odd_same hR (.inr rfl)
          · rw [if_neg hx] at hR ⊢
            have hfl : (if E < 1 - gOfE f then (3 : Int) else 1) ≠ 0 := by split <;> decide
            by_cases ht : c.1 = 2 ^ p.toNat - 1 ∧ u = gOfE f - p + 1
            · rw [if_pos ht]
              rw [ht.1, ht.2, mk_full (by omega)] at hR
              exact Odd_top hf hfl hR
            · rw [if_neg ht]
              by_cases hz : c.1 = 0
              · have h5 := f5 hz
                rw [if_pos h5] at hstep
                rw [hz] at hR ⊢
                have e0 : mkP n 0 u = ⟨0, n, 0, 0⟩ := rfl
                rw [e0] at hR
                have := Odd_zero hf hfl hR
                rw [hstep]
                exact this
              · have h4 := f4 hz
                refine Odd_fin hf hfl hz f3 (by omega) ?_ (by rw [h4, hu]) ht hR
                split at hstep <;> omega
  · rw [if_pos h] at hR ⊢
    exact Odd_same hR (.inl h)
end Go.Proofs.YtokgalpflooegaaGreatDoor
/- What is rounded without flags; what is beyond the greatest float; plain. No condition. -/
namespace Go.Proofs.YtokgalpflooegaaGreatDoor
set_option linter.unusedVariables false
set_option linter.unusedSimpArgs false
set_option maxHeartbeats 4000000
set_option maxRecDepth 10000
theorem exact_flags {f p r : Int} (hf : fmOk f p = true) {n : Bool} {M : Nat} {e : Int} {st : Bool} (hM : p + 2 ≤ bl M) :
    ((roundP f p r n M e st).2 = 0 → ((cutP M (stepP f p (e + bl M - 1) - e) st).2 = 0 ∧ e + bl M - 1 ≤ gOfE f)) ∧
    (((cutP M (stepP f p (e + bl M - 1) - e) st).2 = 0 ∧ e + bl M - 1 ≤ gOfE f) → roundP f p r n M e st = (mkP n (cutP M (stepP f p (e + bl M - 1) - e) st).1 (stepP f p (e + bl M - 1)), 0)) := by
  obtain ⟨b1, b2, b3, b4⟩ := fmOk_spec hf
  obtain ⟨b5, b6⟩ := gOfE_le b1 b2
  obtain ⟨f1, f2, f3, f4, f5, f6, f7⟩ := @cut_facts f p hf M e st hM
  have hstep : stepP f p (e + bl M - 1) = if e + bl M - 1 < 1 - gOfE f then 1 - gOfE f - (p - 1) else e + bl M - 1 - p + 1 := rfl
  by_cases hE : gOfE f < e + bl M - 1
  · rw [round_beyond hf hM hE]
    exact ⟨fun h => by simp at h, fun h => by omega⟩
  · unfold roundP
    simp only []
    generalize stepP f p (e + bl M - 1) = u at *
    generalize cutP M (u - e) st = c at *
    constructor
    · intro h
      refine ⟨?_, by omega⟩
      split at h
      · simp at h
      · apply Classical.byContradiction
        intro hx
        simp only [] at h
        rw [if_neg hx] at h
        split at h <;> simp at h
    · rintro ⟨hx, _⟩
      rw [hx, upP_none]
      have h0 : c.1 ≠ 0 := fun h => f6 h hx
      have := f4 h0
      rw [if_neg (by omega)]
      rfl
/-- Is a quotient beyond the greatest float? -/
theorem top_over {f p : Int} (hf : fmOk f p = true) {v d K J : Nat} (hd : 0 < d) (hM : p + 2 ≤ bl (quoM v d K)) (hJ : gOfE f - p + 1 + K = J) (hJ1 : 1 ≤ J)
    (hx : ¬ ((cutP (quoM v d K) (stepP f p (-(K : Int) + bl (quoM v d K) - 1) - -(K : Int)) (quoS v d K)).2 = 0 ∧ -(K : Int) + bl (quoM v d K) - 1 ≤ gOfE f)) :
    (gOfE f < -(K : Int) + bl (quoM v d K) - 1 ∨ ((cutP (quoM v d K) (stepP f p (-(K : Int) + bl (quoM v d K) - 1) - -(K : Int)) (quoS v d K)).1 = 2 ^ p.toNat - 1 ∧ stepP f p (-(K : Int) + bl (quoM v d K) - 1) = gOfE f - p + 1)) ↔ (2 ^ p.toNat - 1) * 2 ^ J * d < v * 2 ^ K := by
  obtain ⟨b1, b2, b3, b4⟩ := fmOk_spec hf
  obtain ⟨b5, b6⟩ := gOfE_le b1 b2
  obtain ⟨f1, f2, f3, f4, f5, f6, f7⟩ := @cut_facts f p hf (quoM v d K) (-(K : Int)) (quoS v d K) hM
  have hstep : stepP f p (-(K : Int) + bl (quoM v d K) - 1) = if -(K : Int) + bl (quoM v d K) - 1 < 1 - gOfE f then 1 - gOfE f - (p - 1) else -(K : Int) + bl (quoM v d K) - 1 - p + 1 := rfl
  obtain ⟨P, hP⟩ : ∃ P : Nat, p = P := ⟨p.toNat, by omega⟩
  have hPn : p.toNat = P := by omega
  rw [hPn]
  have hq : quoM v d K * d + v * 2 ^ K % d = v * 2 ^ K := by
    unfold quoM
    rw [Nat.mul_comm]; exact Nat.div_add_mod _ _
  have hR := Nat.mod_lt (v * 2 ^ K) hd
  have hS : quoS v d K = !decide (v * 2 ^ K % d = 0) := rfl
  generalize v * 2 ^ K % d = R at *
  generalize v * 2 ^ K = N at *
  generalize quoM v d K = M at *
  obtain ⟨T, hT⟩ : ∃ T, (2 ^ P - 1) * 2 ^ J = T := ⟨_, rfl⟩
  rw [hT]
  have hcmp : T * d < N ↔ (T < M ∨ (T = M ∧ R ≠ 0)) := by
    rw [← hq]
    rcases Nat.lt_trichotomy T M with h | h | h
    · have := Nat.mul_le_mul_right d (show T + 1 ≤ M from h)
      rw [Nat.add_mul] at this
      constructor
      · intro _; exact .inl h
      · intro _; omega
    · subst h
      constructor
      · intro h; exact .inr ⟨rfl, by omega⟩
      · rintro (h | ⟨_, h⟩) <;> omega
    · have := Nat.mul_le_mul_right d (show M + 1 ≤ T from h)
      rw [Nat.add_mul] at this
      constructor
      · intro h; omega
      · rintro (h | ⟨h, _⟩) <;> omega
  rw [hcmp]
  have h2P := two_pos' P
  have h2J := two_pos' J
  have hT1 : T + 2 ^ J = 2 ^ P * 2 ^ J := by
    rw [← hT, Nat.sub_mul, Nat.one_mul]
    have : 2 ^ J ≤ 2 ^ P * 2 ^ J := Nat.le_mul_of_pos_left _ h2P
    omega
  have hbl := bl_self M
  by_cases h1 : gOfE f < -(K : Int) + bl M - 1
  · have h2 : P + J < bl M := by omega
    rw [bl_le, Nat.pow_add] at h2
    exact ⟨fun _ => .inl (by omega), fun _ => .inl h1⟩
  · have hx2 : (cutP M (stepP f p (-(K : Int) + bl M - 1) - -(K : Int)) (quoS v d K)).2 ≠ 0 := fun h => hx ⟨h, by omega⟩
    by_cases h2 : -(K : Int) + bl M - 1 = gOfE f
    · have hu : stepP f p (-(K : Int) + bl M - 1) = gOfE f - p + 1 := by
        rw [hstep, if_neg (by omega)]; omega
      rw [hu] at f3 hx2 ⊢
      rw [show gOfE f - p + 1 - -(K : Int) = (J : Int) by omega] at f3 hx2 ⊢
      obtain ⟨c1, c2⟩ := @cutP_pos M J (quoS v d K) hJ1
      rw [c1] at f3 ⊢
      rw [ne_eq, c2] at hx2
      have hlt : M / 2 ^ J < 2 ^ P := bl_full (by omega)
      have hdm := Nat.div_add_mod M (2 ^ J)
      have hml := Nat.mod_lt M h2J
      constructor
      · rintro (h | ⟨h, _⟩)
        · omega
        · rw [h] at hdm
          rw [Nat.mul_comm, hT] at hdm
          by_cases h3 : M % 2 ^ J = 0
          · refine .inr ⟨by omega, ?_⟩
            intro hR0
            exact hx2 ⟨by rw [hS, hR0]; rfl, h3⟩
          · exact .inl (by omega)
      · intro h
        refine .inr ⟨?_, rfl⟩
        have h4 : T ≤ M := by rcases h with h | ⟨h, _⟩ <;> omega
        have h5 : 2 ^ P - 1 ≤ M / 2 ^ J := by
          rw [Nat.le_div_iff_mul_le h2J, hT]; exact h4
        omega
    · have h3 : ¬ (stepP f p (-(K : Int) + bl M - 1) = gOfE f - p + 1) := by
        rw [hstep]; split <;> omega
      have h4 : M < T := by
        have h5 : 2 ^ bl M ≤ 2 ^ (P - 1 + J) := Nat.pow_le_pow_right (by decide) (by omega)
        have h6 : 2 ^ (P - 1) ≤ 2 ^ P - 1 := by
          obtain ⟨j, rfl⟩ : ∃ j, P = j + 1 := ⟨P - 1, by omega⟩
          have := two_pos' j
          rw [show j + 1 - 1 = j by omega, Nat.pow_succ]; omega
        have h7 := Nat.mul_le_mul_right (2 ^ J) h6
        rw [← Nat.pow_add, hT] at h7
        omega
      constructor
      · rintro (h | ⟨_, h⟩)
        · exact absurd h h1
        · exact absurd h h3
      · rintro (h | ⟨h, _⟩) <;> omega
end Go.Proofs.YtokgalpflooegaaGreatDoor
/- Rounded to odd, by the reference. No condition. -/
namespace Go.Proofs.YtokgalpflooegaaGreatDoor
set_option linter.unusedVariables false
set_option linter.unusedSimpArgs false
set_option maxHeartbeats 8000000
set_option maxRecDepth 10000
section
variable {P : Program} {G : Gl} {nt : Nat} {st : St} {ops l : List Oper} {Q : St → Prop}
/-- The first field of a value. -/
theorem DoL.field3 {o : Oper} (md : Bool) (lab : Nat) (hg : o.guard = none) {t s : Nat} {c0 c1 c2 : Ce} (hop : o.op = .field t (.tmp s) 0) (hs : lk s st.tm = some (.v (.a [c0, c1, c2]))) (hF : ∀ a b c W, (Instr.field t (.agg #[a, b, c]) 0).run P W = .ok a W) (hd : dstOk nt o.dst = true)
    (next : runs P G nt md ops Q lab l ⟨setv o.dst (some (.v (.c c0))) st.tm, st.ob⟩) : DoL P G nt ops (o :: l) st Q := by
  intro cx a W hn ⟨m, hr⟩ Q' hQ
  refine wpList_plain hg fun K hK => ?_
  unfold Oper.wp
  have hsS : opv st.tm (.tmp s) = some (.v (.a [c0, c1, c2])) := hs
  obtain ⟨vs, e1, h2⟩ := hr.opv hsS
  obtain ⟨v0, r0, e2, a0, h2⟩ := h2.cons_iff
  obtain ⟨v1, r1, rfl, a1, h2⟩ := h2.cons_iff
  obtain ⟨v2, r2, rfl, a2, h2⟩ := h2.cons_iff
  cases h2
  have e3 : vs = #[v0, v1, v2] := Array.toList_inj.1 (by rw [e2])
  subst e3
  have hexec : (execOp a.eval o).run P W = .ok (.value v0) W := by
    simp [execOp, hop, e1, hF]
  rw [hexec]
  exact hK _ _ (DoL.run next cx _ _ hn (Rel.put hr hn hd (x := .v (.c c0)) a0) Q' hQ)
end
theorem part_field : ∀ a b c W, (Instr.field 127 (.agg #[a, b, c]) 0).run Tryz.prog W = .ok a W := fun a b c W => by kernel_rfl
variable {G : Gl}
theorem QAbsD {n : Bool} {m d : List Nat} (hm : m.length ≤ 3000) (wm : Ws m) (hd : d.length ≤ 3000) (wd : Ws d) (h0 : 0 < val d) : Does Tryz.prog G 44 [Qw n m d] (.v (Qv (nz (val m : Int) (val d)) (nd (val m : Int) (val d)))) := by
  have h1 := @IMake_does G false m (by omega) wm
  have h1 : Does Tryz.prog G 56 [.c (.b false), Wd m] (.v (Ig false (nat (val m)))) := by
    have e : Iv (sgn false (val m)) = Ig false (nat (val m)) := by
      rw [sgn_false]
      show Ig (decide ((val m : Int) < 0)) (nat (val m : Int).natAbs) = _
      rw [Int.natAbs_natCast, decide_eq_false (by omega)]
    refine Does.of (nt := 8) Tryz.func56 rfl rfl rfl (by simp) ?_
    simp only [argTm, PV.ext, Ce.ext]
    refine Do.seqk fun _ k1_ => ?_
    refine Do.region [0,1,4] true ?_
    simp [go_sem]
    apply k1_; clear k1_
    refine Do.seqk fun _ k2_ => ?_
    refine Do.region [4] true ?_
    simp [go_sem]
    refine DoL.call true 103 rfl rfl rfl rfl (by first | exact trivial | omega | (simp; done) | (simp; omega)) (h1) rfl (by first | exact .inl rfl | exact .inr rfl) rfl ?_
    simp [go_sem]
    repeat (refine And.intro (by first | omega | (intros; omega) | grind) ?_)
    apply k2_; clear k2_
    refine Do.ret ?_
    simp [endQ, rets, ret1, go_sem]
    repeat (refine And.intro (by first | omega | (intros; omega) | grind) ?_)
    rw [← e]
    exact TLe.refl _
  have bm := bl_le_len wm (Nat.le_refl (val m))
  have lm := len_bl (show bl (val m) ≤ 192000 by omega)
  have h2 := @QNormD G false (nat (val m)) d (by omega) (nat_ws _) (by omega) wd h0
  rw [val_nat, sgn_false] at h2
  generalize nz (val m : Int) (val d) = z' at *
  generalize nd (val m : Int) (val d) = d' at *
  refine Does.of (nt := 11) Tryz.func44 rfl rfl rfl (by simp) ?_
  simp only [argTm, PV.ext, Ce.ext]
  refine Do.seqk fun _ k1_ => ?_
  refine Do.region [1,2] true ?_
  simp [go_sem]
  apply k1_; clear k1_
  refine Do.seqk fun _ k2_ => ?_
  refine Do.draw [2] true (by kernel_rfl) ?_
  simp [go_sem]
  repeat (refine And.intro (by first | omega | (intros; omega) | kernel_rfl | grind) ?_)
  refine DoLD.call true 104 rfl rfl rfl rfl (by first | exact trivial | omega | (simp; done) | (simp; omega)) (h1) rfl (by first | exact .inl rfl | exact .inr rfl) rfl ?_
  simp [go_sem]
  repeat (refine And.intro (by first | omega | (intros; omega) | kernel_rfl | grind) ?_)
  refine DoLD.call true 108 rfl rfl rfl rfl (by first | exact trivial | omega | (simp; done) | (simp; omega)) (h2) rfl (by first | exact .inl rfl | exact .inr rfl) rfl ?_
  simp [go_sem]
  repeat (refine And.intro (by first | omega | (intros; omega) | kernel_rfl | grind) ?_)
  try (refine And.intro (by kernel_rfl) ?_)
  apply k2_; clear k2_
  refine Do.ret ?_
  simp [endQ, rets, ret1, go_sem]
  repeat (refine And.intro (by first | omega | (intros; omega) | grind) ?_)
  exact TLe.refl _
theorem QCmpD {z1 z2 : Int} {d1 d2 : Nat} (s1 : bl z1.natAbs ≤ 4000000) (s2 : bl d1 ≤ 4000000) (t1 : bl z2.natAbs ≤ 4000000) (t2 : bl d2 ≤ 4000000) : Does Tryz.prog G 43 [Qv z1 d1, Qv z2 d2] (.int .i64 (z1 * d2 - z2 * d1).sign) := by
  have m1 := bl_mulz z1 d2
  have m2 := bl_mulz z2 d1
  rw [Int.natAbs_natCast] at m1 m2
  have k1 := @IvMake G false d1 (by omega)
  have k2 := @IvMake G false d2 (by omega)
  have p1 := @IvMul G z1 d2 (by unfold Bz; omega) (by unfold Bz; rw [Int.natAbs_natCast]; omega)
  have p2 := @IvMul G z2 d1 (by unfold Bz; omega) (by unfold Bz; rw [Int.natAbs_natCast]; omega)
  have p3 := @IvCmp G (z1 * d2) (z2 * d1) (by unfold Bz; omega) (by unfold Bz; omega)
  rw [sgn_false] at k1 k2
  generalize z1 * (d2 : Int) = u1 at *
  generalize z2 * (d1 : Int) = u2 at *
  generalize (d1 : Int) = y1 at *
  generalize (d2 : Int) = y2 at *
  generalize (u1 - u2).sign = sg at *
  refine Does.of (nt := 18) Tryz.func43 rfl rfl rfl (by simp) ?_
  simp only [argTm, PV.ext, Ce.ext]
  refine Do.seqk fun _ k1_ => ?_
  refine Do.region [2,3] true ?_
  simp [go_sem]
  apply k1_; clear k1_
  refine Do.seqk fun _ k2_ => ?_
  refine Do.draw [4] true (by kernel_rfl) ?_
  simp [go_sem]
  repeat (refine And.intro (by first | omega | (intros; omega) | kernel_rfl | grind) ?_)
  refine DoLD.call true 105 rfl rfl rfl rfl (by first | exact trivial | omega | (simp; done) | (simp; omega)) (k2) rfl (by first | exact .inl rfl | exact .inr rfl) rfl ?_
  simp [go_sem]
  refine DoLD.call true 106 rfl rfl rfl rfl (by first | exact trivial | omega | (simp; done) | (simp; omega)) (p1) rfl (by first | exact .inl rfl | exact .inr rfl) rfl ?_
  simp [go_sem]
  repeat (refine And.intro (by first | omega | (intros; omega) | kernel_rfl | grind) ?_)
  refine DoLD.call true 111 rfl rfl rfl rfl (by first | exact trivial | omega | (simp; done) | (simp; omega)) (k1) rfl (by first | exact .inl rfl | exact .inr rfl) rfl ?_
  simp [go_sem]
  refine DoLD.call true 112 rfl rfl rfl rfl (by first | exact trivial | omega | (simp; done) | (simp; omega)) (p2) rfl (by first | exact .inl rfl | exact .inr rfl) rfl ?_
  simp [go_sem]
  refine DoLD.call true 113 rfl rfl rfl rfl (by first | exact trivial | omega | (simp; done) | (simp; omega)) (p3) rfl (by first | exact .inl rfl | exact .inr rfl) rfl ?_
  simp [go_sem]
  try (refine And.intro (by kernel_rfl) ?_)
  apply k2_; clear k2_
  refine Do.ret ?_
  simp [endQ, rets, ret1, go_sem]
  repeat (refine And.intro (by first | omega | (intros; omega) | grind) ?_)
  exact TLe.refl _
theorem RStepD {f p : Int} (hf : fmOk f p = true) {n : Bool} {m d : List Nat} (hm : m.length ≤ 3000) (wm : Ws m) (hd : d.length ≤ 3000) (wd : Ws d) (h0 : 0 < val d) (hv : 0 < val m) {K : Nat} (hK : bl (val d) ≤ K) : Does Tryz.prog G 72 [Fm f p, Qw n m d] (.int .i64 (stepP f p (bl (quoM (val m) (val d) K) - 1 - K))) := by
  obtain ⟨b1, b2, b3, b4⟩ := fmOk_spec hf
  obtain ⟨b5, b6⟩ := gOfE_le b1 b2
  have bm := bl_le_len wm (Nat.le_refl (val m))
  have bd := bl_le_len wd (Nat.le_refl (val d))
  have hS := @QSignD G n m d (by omega) wm
  have hs : (sgn n (val m)).sign ≠ 0 := by
    intro h
    have h2 := Int.sign_eq_zero_iff_zero.1 h
    have := congrArg Int.natAbs h2
    rw [sgn_abs] at this
    simp at this
    omega
  have hO := @ROfD G n m d (by omega) wm (by omega) wd
  have hE := @RExpD G (decide (sgn n (val m) < 0)) (val m) (val d) K hv h0 (by omega) (by omega) hK
  have hL := @RLeast_does G f p hf
  have hI : -1000000 ≤ (bl (quoM (val m) (val d) K) : Int) - 1 - K ∧ (bl (quoM (val m) (val d) K) : Int) - 1 - K ≤ 1000000 := by
    obtain ⟨q1, q2⟩ := @quo_exp (val m) (val d) K hv h0 hK
    by_cases h : bl (val d) ≤ bl (val m)
    · have := q1 (bl (val m) - bl (val d)) (by omega); split at this <;> constructor <;> omega
    · have := q2 (bl (val d) - bl (val m)) (by omega); split at this <;> constructor <;> omega
  have hst : stepP f p (bl (quoM (val m) (val d) K) - 1 - K) = (if (bl (quoM (val m) (val d) K) : Int) - 1 - K < 1 - gOfE f then 1 - gOfE f else (bl (quoM (val m) (val d) K) : Int) - 1 - K) - p + 1 := by unfold stepP; split <;> omega
  rw [hst]
  generalize (bl (quoM (val m) (val d) K) : Int) - 1 - K = E at *
  generalize decide (sgn n (val m) < 0) = ng at *
  generalize (sgn n (val m)).sign = sg at *
  have hs2 : (sg == 0) = false := by simpa using hs
  generalize gOfE f = g at *
  refine Does.of (nt := 20) Tryz.func72 rfl rfl rfl (by simp) ?_
  simp only [argTm, PV.ext, Ce.ext]
  refine Do.seqk fun _ k1_ => ?_
  refine Do.region [2,3] true ?_
  simp [go_sem]
  apply k1_; clear k1_
  refine Do.seqk fun _ k2_ => ?_
  refine Do.seqk fun _ k3_ => ?_
  refine Do.region [2,3,7] true ?_
  simp [go_sem]
  repeat (refine And.intro (by first | omega | (intros; omega) | grind) ?_)
  refine DoL.call true 102 rfl rfl rfl rfl (by first | exact trivial | omega | (simp; done) | (simp; omega)) (hS) rfl (by first | exact .inl rfl | exact .inr rfl) rfl ?_
  simp [go_sem]
  apply k3_; clear k3_
  refine Do.cond [2,3] rfl (fun g1 => ?_) (fun g1 => ?_) <;> simp [go_sem, hs2] at g1 ⊢
  refine Do.skip ?_
  simp [go_sem]
  apply k2_; clear k2_
  refine Do.seqk fun _ k4_ => ?_
  refine Do.draw [4] true (by kernel_rfl) ?_
  simp [go_sem, hs2]
  repeat (refine And.intro (by first | omega | (intros; omega) | kernel_rfl | grind) ?_)
  refine DoLD.call true 302 rfl rfl rfl rfl (by first | exact trivial | omega | (simp; done) | (simp; omega)) (hO) rfl (by first | exact .inl rfl | exact .inr rfl) rfl ?_
  simp [go_sem, hs2]
  refine DoLD.call true 303 rfl rfl rfl rfl (by first | exact trivial | omega | (simp; done) | (simp; omega)) (hE) rfl (by first | exact .inl rfl | exact .inr rfl) rfl ?_
  simp [go_sem, hs2]
  repeat (refine And.intro (by first | omega | (intros; omega) | kernel_rfl | grind) ?_)
  refine DoLD.call true 305 rfl rfl rfl rfl (by first | exact trivial | omega | (simp; done) | (simp; omega)) (hL) rfl (by first | exact .inl rfl | exact .inr rfl) rfl ?_
  simp [go_sem, hs2]
  repeat (refine And.intro (by first | omega | (intros; omega) | kernel_rfl | grind) ?_)
  try (refine And.intro (by kernel_rfl) ?_)
  apply k4_; clear k4_
  refine Do.ret ?_
  simp [endQ, rets, ret1, go_sem, hs2]
  repeat (refine And.intro (by first | omega | (intros; omega) | grind) ?_)
  exact ret_i (by split <;> omega)
end Go.Proofs.YtokgalpflooegaaGreatDoor
/- Rounded to odd, by the reference: the whole. No condition. -/
namespace Go.Proofs.YtokgalpflooegaaGreatDoor
set_option linter.unusedVariables false
set_option linter.unusedSimpArgs false
set_option maxHeartbeats 8000000
set_option maxRecDepth 10000
variable {G : Gl}
theorem ROdd_in {f p : Int} {n : Bool} {m d : List Nat} {y : Flt} (hOf : Does Tryz.prog G 68 [Qw n m d] (.t [y.pw, .c (.b true)])) (hIn : Does Tryz.prog G 69 [Fm f p, y.pv] (.v (.c (.b true)))) :
    Does Tryz.prog G 22 [Fm f p, Qw n m d] (.t [y.pv, .c (.i .i64 0)]) := by
  obtain ⟨yk, yn, ye, yv⟩ := y
  have hIn : Does Tryz.prog G 69 [Fm f p, Fl yk yn ye (nat yv)] (.v (.c (.b true))) := hIn
  have hOf : Does Tryz.prog G 68 [Qw n m d] (.t [.a [.i .i64 yk, .b yn, .i .i64 ye, .w true (nat yv)], .c (.b true)]) := hOf
  refine Does.of (nt := 65) Tryz.func22 rfl rfl rfl (by simp) ?_
  simp only [argTm, PV.ext, Ce.ext]
  refine Do.seqk fun _ k1_ => ?_
  refine Do.region [2,3,4] true ?_
  simp [go_sem]
  apply k1_; clear k1_
  refine Do.seqk fun _ k2_ => ?_
  refine Do.seqk fun _ k3_ => ?_
  refine Do.region [2,3,4,6,7] true ?_
  simp [go_sem]
  repeat (refine And.intro (by first | omega | (intros; omega) | grind) ?_)
  refine DoL.call true 102 rfl rfl rfl rfl (by first | exact trivial | omega | (simp; done) | (simp; omega)) (hOf) rfl (by first | exact .inl rfl | exact .inr rfl) rfl ?_
  simp [go_sem]
  repeat (refine And.intro (by first | omega | (intros; omega) | grind) ?_)
  apply k3_; clear k3_
  refine Do.seqk fun _ k4_ => ?_
  refine Do.region [2,3,4,6,23] true ?_
  simp [go_sem]
  repeat (refine And.intro (by first | omega | (intros; omega) | grind) ?_)
  refine DoL.callg true 205 rfl rfl rfl rfl rfl (by simp [go_sem] <;> omega) (fun _ => hIn) rfl (by first | exact .inl rfl | exact .inr rfl) rfl ?_
  simp [go_sem]
  apply k4_; clear k4_
  refine Do.cond [2,3,4,6] rfl (fun g1 => ?_) (fun g1 => ?_) <;> simp [go_sem] at g1 ⊢
  refine Do.seqk fun _ k5_ => ?_
  refine Do.region [4,5] true ?_
  simp [go_sem]
  repeat (refine And.intro (by first | omega | (intros; omega) | grind) ?_)
  apply k5_; clear k5_
  refine Do.ret ?_
  simp [endQ, rets, ret1, go_sem]
  repeat (refine And.intro (by first | omega | (intros; omega) | grind) ?_)
  exact TLe.t (.cons (PLe.flt (PLe.ext (.c (.w true _)))) (.cons (PLe.refl _) .nil))
theorem ROdd_over {f p : Int} {n ng ok inb : Bool} {m d : List Nat} {y : Flt} {v w : Nat} {E : Int} {T d1 d2 : Nat} {z1 z2 sg : Int} (hno : ¬ (ok = true ∧ inb = true)) (hOf : Does Tryz.prog G 68 [Qw n m d] (.t [y.pw, .c (.b ok)])) (hIn : Does Tryz.prog G 69 [Fm f p, y.pv] (.v (.c (.b inb))))
    (hO : Does Tryz.prog G 70 [Qw n m d] (.v (RlD ng v w))) (hT : Does Tryz.prog G 71 [Fm f p] (.v (Flt.pw ⟨1, false, E, T⟩))) (hA : Does Tryz.prog G 44 [Qw n m d] (.v (Qv z1 d1))) (hR : Does Tryz.prog G 40 [Fl 1 false E (nat T)] (.v (Qv z2 d2))) (hC : Does Tryz.prog G 43 [Qv z1 d1, Qv z2 d2] (.int .i64 sg)) (hsg : 0 < sg) :
    Does Tryz.prog G 22 [Fm f p, Qw n m d] (.t [Flt.pv ⟨1, ng, E, T⟩, .c (.i .i64 5)]) := by
  obtain ⟨yk, yn, ye, yv⟩ := y
  have hIn : Does Tryz.prog G 69 [Fm f p, Fl yk yn ye (nat yv)] (.v (.c (.b inb))) := hIn
  have hOf : Does Tryz.prog G 68 [Qw n m d] (.t [.a [.i .i64 yk, .b yn, .i .i64 ye, .w true (nat yv)], .c (.b ok)]) := hOf
  have hT : Does Tryz.prog G 71 [Fm f p] (.v (.a [.i .i64 1, .b false, .i .i64 E, .w true (nat T)])) := hT
  refine Does.of (nt := 65) Tryz.func22 rfl rfl rfl (by simp) ?_
  simp only [argTm, PV.ext, Ce.ext]
  refine Do.seqk fun _ k1_ => ?_
  refine Do.region [2,3,4] true ?_
  simp [go_sem]
  apply k1_; clear k1_
  refine Do.seqk fun _ k2_ => ?_
  refine Do.seqk fun _ k3_ => ?_
  refine Do.region [2,3,4,6,7] true ?_
  simp [go_sem]
  repeat (refine And.intro (by first | omega | (intros; omega) | grind) ?_)
  refine DoL.call true 102 rfl rfl rfl rfl (by first | exact trivial | omega | (simp; done) | (simp; omega)) (hOf) rfl (by first | exact .inl rfl | exact .inr rfl) rfl ?_
  simp [go_sem]
  repeat (refine And.intro (by first | omega | (intros; omega) | grind) ?_)
  apply k3_; clear k3_
  refine Do.seqk fun _ k4_ => ?_
  refine Do.region [2,3,4,6,23] true ?_
  simp [go_sem]
  repeat (refine And.intro (by first | omega | (intros; omega) | grind) ?_)
  refine DoL.callg true 205 rfl rfl rfl rfl rfl (by simp [go_sem] <;> omega) (fun _ => hIn) rfl (by first | exact .inl rfl | exact .inr rfl) rfl ?_
  simp [go_sem]
  apply k4_; clear k4_
  refine Do.cond [2,3,4,6] rfl (fun g1 => ?_) (fun g1 => ?_) <;> simp [go_sem] at g1 ⊢
  · exact absurd g1 hno
  · refine Do.skip ?_
    simp [go_sem]
    apply k2_; clear k2_
    refine Do.seqk fun _ k5_ => ?_
    refine Do.region [2,3,4,8] true ?_
    simp [go_sem]
    repeat (refine And.intro (by first | omega | (intros; omega) | grind) ?_)
    refine DoL.call true 402 rfl rfl rfl rfl (by first | exact trivial | omega | (simp; done) | (simp; omega)) (hO) rfl (by first | exact .inl rfl | exact .inr rfl) rfl ?_
    simp [go_sem]
    repeat (refine And.intro (by first | omega | (intros; omega) | grind) ?_)
    apply k5_; clear k5_
    refine Do.seqk fun _ k6_ => ?_
    refine Do.region [2,3,4,8,9] true ?_
    simp [go_sem]
    repeat (refine And.intro (by first | omega | (intros; omega) | grind) ?_)
    refine DoL.call true 502 rfl rfl rfl rfl (by first | exact trivial | omega | (simp; done) | (simp; omega)) (hT) rfl (by first | exact .inl rfl | exact .inr rfl) rfl ?_
    simp [go_sem]
    repeat (refine And.intro (by first | omega | (intros; omega) | grind) ?_)
    apply k6_; clear k6_
    refine Do.seqk fun _ k7_ => ?_
    refine Do.seqk fun _ k8_ => ?_
    refine Do.draw [2,3,4,8,9,34] true (by kernel_rfl) ?_
    simp [go_sem]
    repeat (refine And.intro (by first | omega | (intros; omega) | kernel_rfl | grind) ?_)
    refine DoLD.call true 602 rfl rfl rfl rfl (by first | exact trivial | omega | (simp; done) | (simp; omega)) (hA) rfl (by first | exact .inl rfl | exact .inr rfl) rfl ?_
    simp [go_sem]
    repeat (refine And.intro (by first | omega | (intros; omega) | kernel_rfl | grind) ?_)
    refine DoLD.call true 604 rfl rfl rfl rfl (by first | exact trivial | omega | (simp; done) | (simp; omega)) (hR) rfl (by first | exact .inl rfl | exact .inr rfl) rfl ?_
    simp [go_sem]
    refine DoLD.call true 605 rfl rfl rfl rfl (by first | exact trivial | omega | (simp; done) | (simp; omega)) (hC) rfl (by first | exact .inl rfl | exact .inr rfl) rfl ?_
    simp [go_sem]
    try (refine And.intro (by kernel_rfl) ?_)
    apply k8_; clear k8_
    refine Do.cond [2,3,4,8,9] rfl (fun g2 => ?_) (fun g2 => ?_) <;> simp [go_sem] at g2 ⊢
    · refine Do.seqk fun _ k9_ => ?_
      refine Do.region [4,9] true ?_
      simp [go_sem]
      repeat (refine And.intro (by first | omega | (intros; omega) | grind) ?_)
      apply k9_; clear k9_
      refine Do.seqk fun _ k10_ => ?_
      refine Do.region [4,5] true ?_
      simp [go_sem]
      repeat (refine And.intro (by first | omega | (intros; omega) | grind) ?_)
      apply k10_; clear k10_
      refine Do.ret ?_
      simp [endQ, rets, ret1, go_sem]
      repeat (refine And.intro (by first | omega | (intros; omega) | grind) ?_)
      exact TLe.t (.cons (PLe.flt (PLe.ext (.c (.w true _)))) (.cons (PLe.refl _) .nil))
    · omega
theorem ROdd_fin {f p : Int} {n ng ok inb hh tt : Bool} {m d : List Nat} {y : Flt} {v w N : Nat} {E X L u : Int} {T d1 d2 : Nat} {z1 z2 sg : Int} (hno : ¬ (ok = true ∧ inb = true)) (hOf : Does Tryz.prog G 68 [Qw n m d] (.t [y.pw, .c (.b ok)])) (hIn : Does Tryz.prog G 69 [Fm f p, y.pv] (.v (.c (.b inb))))
    (hO : Does Tryz.prog G 70 [Qw n m d] (.v (RlD ng v w))) (hT : Does Tryz.prog G 71 [Fm f p] (.v (Flt.pw ⟨1, false, E, T⟩))) (hA : Does Tryz.prog G 44 [Qw n m d] (.v (Qv z1 d1))) (hR : Does Tryz.prog G 40 [Fl 1 false E (nat T)] (.v (Qv z2 d2))) (hC : Does Tryz.prog G 43 [Qv z1 d1, Qv z2 d2] (.int .i64 sg)) (hsg : ¬ 0 < sg)
    (hSt : Does Tryz.prog G 72 [Fm f p, Qw n m d] (.int .i64 u)) (hS : Does Tryz.prog G 73 [RlD ng v w, .c (.i .i64 u)] (.v (Pt N hh tt))) (hN : bl N ≤ 1000000) (hu : Md u)
    (hE : Does Tryz.prog G 77 [RlD ng v w] (.int .i64 X)) (hL : Does Tryz.prog G 78 [Fm f p] (.int .i64 L)) :
    Does Tryz.prog G 22 [Fm f p, Qw n m d] (.t [(mkP ng (oddN N) u).pv, .c (.i .i64 (if X < L then 3 else 1))]) := by
  obtain ⟨yk, yn, ye, yv⟩ := y
  have hIn : Does Tryz.prog G 69 [Fm f p, Fl yk yn ye (nat yv)] (.v (.c (.b inb))) := hIn
  have hOf : Does Tryz.prog G 68 [Qw n m d] (.t [.a [.i .i64 yk, .b yn, .i .i64 ye, .w true (nat yv)], .c (.b ok)]) := hOf
  have hT : Does Tryz.prog G 71 [Fm f p] (.v (.a [.i .i64 1, .b false, .i .i64 E, .w true (nat T)])) := hT
  have ln := len_bl hN
  have hB := @RBit_does G (nat N) (by omega) (nat_ws _) 0 (by constructor <;> decide)
  rw [val_nat] at hB
  simp only [Int.toNat_zero, Nat.pow_zero, Nat.div_one, decide_true, Bool.true_and, Int.le_refl] at hB
  have hW := @RWord_does G 1 (by decide)
  have hAd := @RAdd_does G (nat N) (nat 1) (by omega) (nat_ws _) (by rw [nat_one]; decide) (nat_ws _)
  rw [val_nat, val_nat] at hAd
  by_cases hodd : N % 2 = 1
  · have e1 : oddN N = N := by unfold oddN; rw [if_pos hodd]
    have hCa := @Canonical_new G 1 u ng (nat N) (by omega) (nat_ws _) hu
    rw [val_nat, ← mkP_rcanon (show N ≠ 0 by omega)] at hCa
    rw [e1]
    rw [decide_eq_true hodd] at hB
    generalize mkP ng N u = yy at *
    obtain ⟨ak, an, ae, av⟩ := yy
    have hCa : Does Tryz.prog G 53 [Fl 1 ng u (nat N)] (.v (.a [.i .i64 ak, .b an, .i .i64 ae, .w true (nat av)])) := hCa
    refine Does.of (nt := 65) Tryz.func22 rfl rfl rfl (by simp) ?_
    simp only [argTm, PV.ext, Ce.ext]
    refine Do.seqk fun _ k1_ => ?_
    refine Do.region [2,3,4] true ?_
    simp [go_sem]
    apply k1_; clear k1_
    refine Do.seqk fun _ k2_ => ?_
    refine Do.seqk fun _ k3_ => ?_
    refine Do.region [2,3,4,6,7] true ?_
    simp [go_sem]
    repeat (refine And.intro (by first | omega | (intros; omega) | grind) ?_)
    refine DoL.call true 102 rfl rfl rfl rfl (by first | exact trivial | omega | (simp; done) | (simp; omega)) (hOf) rfl (by first | exact .inl rfl | exact .inr rfl) rfl ?_
    simp [go_sem]
    repeat (refine And.intro (by first | omega | (intros; omega) | grind) ?_)
    apply k3_; clear k3_
    refine Do.seqk fun _ k4_ => ?_
    refine Do.region [2,3,4,6,23] true ?_
    simp [go_sem]
    repeat (refine And.intro (by first | omega | (intros; omega) | grind) ?_)
    refine DoL.callg true 205 rfl rfl rfl rfl rfl (by simp [go_sem] <;> omega) (fun _ => hIn) rfl (by first | exact .inl rfl | exact .inr rfl) rfl ?_
    simp [go_sem]
    apply k4_; clear k4_
    refine Do.cond [2,3,4,6] rfl (fun g1 => ?_) (fun g1 => ?_) <;> simp [go_sem] at g1 ⊢
    · exact absurd g1 hno
    · refine Do.skip ?_
      simp [go_sem]
      apply k2_; clear k2_
      refine Do.seqk fun _ k5_ => ?_
      refine Do.region [2,3,4,8] true ?_
      simp [go_sem]
      repeat (refine And.intro (by first | omega | (intros; omega) | grind) ?_)
      refine DoL.call true 402 rfl rfl rfl rfl (by first | exact trivial | omega | (simp; done) | (simp; omega)) (hO) rfl (by first | exact .inl rfl | exact .inr rfl) rfl ?_
      simp [go_sem]
      repeat (refine And.intro (by first | omega | (intros; omega) | grind) ?_)
      apply k5_; clear k5_
      refine Do.seqk fun _ k6_ => ?_
      refine Do.region [2,3,4,8,9] true ?_
      simp [go_sem]
      repeat (refine And.intro (by first | omega | (intros; omega) | grind) ?_)
      refine DoL.call true 502 rfl rfl rfl rfl (by first | exact trivial | omega | (simp; done) | (simp; omega)) (hT) rfl (by first | exact .inl rfl | exact .inr rfl) rfl ?_
      simp [go_sem]
      repeat (refine And.intro (by first | omega | (intros; omega) | grind) ?_)
      apply k6_; clear k6_
      refine Do.seqk fun _ k7_ => ?_
      refine Do.seqk fun _ k8_ => ?_
      refine Do.draw [2,3,4,8,9,34] true (by kernel_rfl) ?_
      simp [go_sem]
      repeat (refine And.intro (by first | omega | (intros; omega) | kernel_rfl | grind) ?_)
      refine DoLD.call true 602 rfl rfl rfl rfl (by first | exact trivial | omega | (simp; done) | (simp; omega)) (hA) rfl (by first | exact .inl rfl | exact .inr rfl) rfl ?_
      simp [go_sem]
      repeat (refine And.intro (by first | omega | (intros; omega) | kernel_rfl | grind) ?_)
      refine DoLD.call true 604 rfl rfl rfl rfl (by first | exact trivial | omega | (simp; done) | (simp; omega)) (hR) rfl (by first | exact .inl rfl | exact .inr rfl) rfl ?_
      simp [go_sem]
      refine DoLD.call true 605 rfl rfl rfl rfl (by first | exact trivial | omega | (simp; done) | (simp; omega)) (hC) rfl (by first | exact .inl rfl | exact .inr rfl) rfl ?_
      simp [go_sem]
      try (refine And.intro (by kernel_rfl) ?_)
      apply k8_; clear k8_
      refine Do.cond [2,3,4,8,9] rfl (fun g2 => ?_) (fun g2 => ?_) <;> simp [go_sem] at g2 ⊢
      · omega
      · refine Do.skip ?_
        simp [go_sem]
        apply k7_; clear k7_
        refine Do.seqk fun _ k9_ => ?_
        refine Do.region [2,4,8,10] true ?_
        simp [go_sem]
        repeat (refine And.intro (by first | omega | (intros; omega) | grind) ?_)
        refine DoL.call true 903 rfl rfl rfl rfl (by first | exact trivial | omega | (simp; done) | (simp; omega)) (hSt) rfl (by first | exact .inl rfl | exact .inr rfl) rfl ?_
        simp [go_sem]
        apply k9_; clear k9_
        refine Do.seqk fun _ k10_ => ?_
        refine Do.region [2,4,8,10,11] true ?_
        simp [go_sem]
        repeat (refine And.intro (by first | omega | (intros; omega) | grind) ?_)
        refine DoL.call true 1003 rfl rfl rfl rfl (by first | exact trivial | omega | (simp; done) | (simp; omega)) (hS) rfl (by first | exact .inl rfl | exact .inr rfl) rfl ?_
        simp [go_sem]
        refine DoL.field3 true 1003 rfl rfl rfl part_field rfl ?_
        simp [go_sem]
        apply k10_; clear k10_
        refine Do.seqk fun _ k11_ => ?_
        refine Do.seqk fun _ k12_ => ?_
        refine Do.region [2,4,8,10,11,48] true ?_
        simp [go_sem]
        refine DoL.call true 1102 rfl rfl rfl rfl (by first | exact trivial | omega | (simp; done) | (simp; omega)) (hB) rfl (by first | exact .inl rfl | exact .inr rfl) rfl ?_
        simp [go_sem]
        repeat (refine And.intro (by first | omega | (intros; omega) | grind) ?_)
        apply k12_; clear k12_
        refine Do.cond [2,4,8,10,11] rfl (fun g3 => ?_) (fun g3 => ?_) <;> simp [go_sem] at g3 ⊢
        refine Do.skip ?_
        simp [go_sem]
        apply k11_; clear k11_
        refine Do.seqk fun _ k13_ => ?_
        refine Do.region [2,4,8,12] true ?_
        simp [go_sem]
        repeat (refine And.intro (by first | omega | (intros; omega) | grind) ?_)
        refine DoL.call true 1306 rfl rfl rfl rfl (by first | exact trivial | omega | (simp; done) | (simp; omega)) (hCa) rfl (by first | exact .inl rfl | exact .inr rfl) rfl ?_
        simp [go_sem]
        repeat (refine And.intro (by first | omega | (intros; omega) | grind) ?_)
        apply k13_; clear k13_
        refine Do.seqk fun _ k14_ => ?_
        refine Do.seqk fun _ k15_ => ?_
        refine Do.draw [4,12,62] true (by kernel_rfl) ?_
        simp [go_sem]
        repeat (refine And.intro (by first | omega | (intros; omega) | kernel_rfl | grind) ?_)
        refine DoLD.call true 1402 rfl rfl rfl rfl (by first | exact trivial | omega | (simp; done) | (simp; omega)) (hE) rfl (by first | exact .inl rfl | exact .inr rfl) rfl ?_
        simp [go_sem]
        repeat (refine And.intro (by first | omega | (intros; omega) | kernel_rfl | grind) ?_)
        refine DoLD.call true 1404 rfl rfl rfl rfl (by first | exact trivial | omega | (simp; done) | (simp; omega)) (hL) rfl (by first | exact .inl rfl | exact .inr rfl) rfl ?_
        simp [go_sem]
        try (refine And.intro (by kernel_rfl) ?_)
        apply k15_; clear k15_
        refine Do.cond [4,12] rfl (fun g4 => ?_) (fun g4 => ?_) <;> simp [go_sem] at g4 ⊢
        · refine Do.seqk fun _ k16_ => ?_
          refine Do.region [4,5] true ?_
          simp [go_sem]
          repeat (refine And.intro (by first | omega | (intros; omega) | grind) ?_)
          apply k16_; clear k16_
          refine Do.ret ?_
          simp [endQ, rets, ret1, go_sem]
          repeat (refine And.intro (by first | omega | (intros; omega) | grind) ?_)
          exact TLe.t (.cons (PLe.flt (PLe.ext (.c (.w true _)))) (.cons (by rw [if_pos g4]; exact PLe.refl _) .nil))
        · refine Do.skip ?_
          simp [go_sem]
          apply k14_; clear k14_
          refine Do.seqk fun _ k17_ => ?_
          refine Do.region [4,5] true ?_
          simp [go_sem]
          repeat (refine And.intro (by first | omega | (intros; omega) | grind) ?_)
          apply k17_; clear k17_
          refine Do.ret ?_
          simp [endQ, rets, ret1, go_sem]
          repeat (refine And.intro (by first | omega | (intros; omega) | grind) ?_)
          exact TLe.t (.cons (PLe.flt (PLe.ext (.c (.w true _)))) (.cons (by rw [if_neg (by omega)]; exact PLe.refl _) .nil))
  · have e1 : oddN N = N + 1 := by unfold oddN; rw [if_neg hodd]
    have hb1 : bl (N + 1) ≤ 1000001 := bl_add_le N 1 1000000 hN (by decide)
    have ln1 := len_bl hb1
    have hCa := @Canonical_new G 1 u ng (nat (N + 1)) (by omega) (nat_ws _) hu
    rw [val_nat, ← mkP_rcanon (show N + 1 ≠ 0 by omega)] at hCa
    rw [e1]
    rw [decide_eq_false hodd] at hB
    generalize mkP ng (N + 1) u = yy at *
    generalize N + 1 = N1 at *
    obtain ⟨ak, an, ae, av⟩ := yy
    have hCa : Does Tryz.prog G 53 [Fl 1 ng u (nat N1)] (.v (.a [.i .i64 ak, .b an, .i .i64 ae, .w true (nat av)])) := hCa
    refine Does.of (nt := 65) Tryz.func22 rfl rfl rfl (by simp) ?_
    simp only [argTm, PV.ext, Ce.ext]
    refine Do.seqk fun _ k1_ => ?_
    refine Do.region [2,3,4] true ?_
    simp [go_sem]
    apply k1_; clear k1_
    refine Do.seqk fun _ k2_ => ?_
    refine Do.seqk fun _ k3_ => ?_
    refine Do.region [2,3,4,6,7] true ?_
    simp [go_sem]
    repeat (refine And.intro (by first | omega | (intros; omega) | grind) ?_)
    refine DoL.call true 102 rfl rfl rfl rfl (by first | exact trivial | omega | (simp; done) | (simp; omega)) (hOf) rfl (by first | exact .inl rfl | exact .inr rfl) rfl ?_
    simp [go_sem]
    repeat (refine And.intro (by first | omega | (intros; omega) | grind) ?_)
    apply k3_; clear k3_
    refine Do.seqk fun _ k4_ => ?_
    refine Do.region [2,3,4,6,23] true ?_
    simp [go_sem]
    repeat (refine And.intro (by first | omega | (intros; omega) | grind) ?_)
    refine DoL.callg true 205 rfl rfl rfl rfl rfl (by simp [go_sem] <;> omega) (fun _ => hIn) rfl (by first | exact .inl rfl | exact .inr rfl) rfl ?_
    simp [go_sem]
    apply k4_; clear k4_
    refine Do.cond [2,3,4,6] rfl (fun g1 => ?_) (fun g1 => ?_) <;> simp [go_sem] at g1 ⊢
    · exact absurd g1 hno
    · refine Do.skip ?_
      simp [go_sem]
      apply k2_; clear k2_
      refine Do.seqk fun _ k5_ => ?_
      refine Do.region [2,3,4,8] true ?_
      simp [go_sem]
      repeat (refine And.intro (by first | omega | (intros; omega) | grind) ?_)
      refine DoL.call true 402 rfl rfl rfl rfl (by first | exact trivial | omega | (simp; done) | (simp; omega)) (hO) rfl (by first | exact .inl rfl | exact .inr rfl) rfl ?_
      simp [go_sem]
      repeat (refine And.intro (by first | omega | (intros; omega) | grind) ?_)
      apply k5_; clear k5_
      refine Do.seqk fun _ k6_ => ?_
      refine Do.region [2,3,4,8,9] true ?_
      simp [go_sem]
      repeat (refine And.intro (by first | omega | (intros; omega) | grind) ?_)
      refine DoL.call true 502 rfl rfl rfl rfl (by first | exact trivial | omega | (simp; done) | (simp; omega)) (hT) rfl (by first | exact .inl rfl | exact .inr rfl) rfl ?_
      simp [go_sem]
      repeat (refine And.intro (by first | omega | (intros; omega) | grind) ?_)
      apply k6_; clear k6_
      refine Do.seqk fun _ k7_ => ?_
      refine Do.seqk fun _ k8_ => ?_
      refine Do.draw [2,3,4,8,9,34] true (by kernel_rfl) ?_
      simp [go_sem]
      repeat (refine And.intro (by first | omega | (intros; omega) | kernel_rfl | grind) ?_)
      refine DoLD.call true 602 rfl rfl rfl rfl (by first | exact trivial | omega | (simp; done) | (simp; omega)) (hA) rfl (by first | exact .inl rfl | exact .inr rfl) rfl ?_
      simp [go_sem]
      repeat (refine And.intro (by first | omega | (intros; omega) | kernel_rfl | grind) ?_)
      refine DoLD.call true 604 rfl rfl rfl rfl (by first | exact trivial | omega | (simp; done) | (simp; omega)) (hR) rfl (by first | exact .inl rfl | exact .inr rfl) rfl ?_
      simp [go_sem]
      refine DoLD.call true 605 rfl rfl rfl rfl (by first | exact trivial | omega | (simp; done) | (simp; omega)) (hC) rfl (by first | exact .inl rfl | exact .inr rfl) rfl ?_
      simp [go_sem]
      try (refine And.intro (by kernel_rfl) ?_)
      apply k8_; clear k8_
      refine Do.cond [2,3,4,8,9] rfl (fun g2 => ?_) (fun g2 => ?_) <;> simp [go_sem] at g2 ⊢
      · omega
      · refine Do.skip ?_
        simp [go_sem]
        apply k7_; clear k7_
        refine Do.seqk fun _ k9_ => ?_
        refine Do.region [2,4,8,10] true ?_
        simp [go_sem]
        repeat (refine And.intro (by first | omega | (intros; omega) | grind) ?_)
        refine DoL.call true 903 rfl rfl rfl rfl (by first | exact trivial | omega | (simp; done) | (simp; omega)) (hSt) rfl (by first | exact .inl rfl | exact .inr rfl) rfl ?_
        simp [go_sem]
        apply k9_; clear k9_
        refine Do.seqk fun _ k10_ => ?_
        refine Do.region [2,4,8,10,11] true ?_
        simp [go_sem]
        repeat (refine And.intro (by first | omega | (intros; omega) | grind) ?_)
        refine DoL.call true 1003 rfl rfl rfl rfl (by first | exact trivial | omega | (simp; done) | (simp; omega)) (hS) rfl (by first | exact .inl rfl | exact .inr rfl) rfl ?_
        simp [go_sem]
        refine DoL.field3 true 1003 rfl rfl rfl part_field rfl ?_
        simp [go_sem]
        apply k10_; clear k10_
        refine Do.seqk fun _ k11_ => ?_
        refine Do.seqk fun _ k12_ => ?_
        refine Do.region [2,4,8,10,11,48] true ?_
        simp [go_sem]
        refine DoL.call true 1102 rfl rfl rfl rfl (by first | exact trivial | omega | (simp; done) | (simp; omega)) (hB) rfl (by first | exact .inl rfl | exact .inr rfl) rfl ?_
        simp [go_sem]
        repeat (refine And.intro (by first | omega | (intros; omega) | grind) ?_)
        apply k12_; clear k12_
        refine Do.cond [2,4,8,10,11] rfl (fun g3 => ?_) (fun g3 => ?_) <;> simp [go_sem] at g3 ⊢
        refine Do.region [2,4,8,10,11] true ?_
        simp [go_sem]
        refine DoL.call true 1202 rfl rfl rfl rfl (by first | exact trivial | omega | (simp; done) | (simp; omega)) (hW) rfl (by first | exact .inl rfl | exact .inr rfl) rfl ?_
        simp [go_sem]
        refine DoL.call true 1203 rfl rfl rfl rfl (by first | exact trivial | omega | (simp; done) | (simp; omega)) (hAd) rfl (by first | exact .inl rfl | exact .inr rfl) rfl ?_
        simp [go_sem]
        apply k11_; clear k11_
        refine Do.seqk fun _ k13_ => ?_
        refine Do.region [2,4,8,12] true ?_
        simp [go_sem]
        repeat (refine And.intro (by first | omega | (intros; omega) | grind) ?_)
        refine DoL.call true 1306 rfl rfl rfl rfl (by first | exact trivial | omega | (simp; done) | (simp; omega)) (hCa) rfl (by first | exact .inl rfl | exact .inr rfl) rfl ?_
        simp [go_sem]
        repeat (refine And.intro (by first | omega | (intros; omega) | grind) ?_)
        apply k13_; clear k13_
        refine Do.seqk fun _ k14_ => ?_
        refine Do.seqk fun _ k15_ => ?_
        refine Do.draw [4,12,62] true (by kernel_rfl) ?_
        simp [go_sem]
        repeat (refine And.intro (by first | omega | (intros; omega) | kernel_rfl | grind) ?_)
        refine DoLD.call true 1402 rfl rfl rfl rfl (by first | exact trivial | omega | (simp; done) | (simp; omega)) (hE) rfl (by first | exact .inl rfl | exact .inr rfl) rfl ?_
        simp [go_sem]
        repeat (refine And.intro (by first | omega | (intros; omega) | kernel_rfl | grind) ?_)
        refine DoLD.call true 1404 rfl rfl rfl rfl (by first | exact trivial | omega | (simp; done) | (simp; omega)) (hL) rfl (by first | exact .inl rfl | exact .inr rfl) rfl ?_
        simp [go_sem]
        try (refine And.intro (by kernel_rfl) ?_)
        apply k15_; clear k15_
        refine Do.cond [4,12] rfl (fun g4 => ?_) (fun g4 => ?_) <;> simp [go_sem] at g4 ⊢
        · refine Do.seqk fun _ k16_ => ?_
          refine Do.region [4,5] true ?_
          simp [go_sem]
          repeat (refine And.intro (by first | omega | (intros; omega) | grind) ?_)
          apply k16_; clear k16_
          refine Do.ret ?_
          simp [endQ, rets, ret1, go_sem]
          repeat (refine And.intro (by first | omega | (intros; omega) | grind) ?_)
          exact TLe.t (.cons (PLe.flt (PLe.ext (.c (.w true _)))) (.cons (by rw [if_pos g4]; exact PLe.refl _) .nil))
        · refine Do.skip ?_
          simp [go_sem]
          apply k14_; clear k14_
          refine Do.seqk fun _ k17_ => ?_
          refine Do.region [4,5] true ?_
          simp [go_sem]
          repeat (refine And.intro (by first | omega | (intros; omega) | grind) ?_)
          apply k17_; clear k17_
          refine Do.ret ?_
          simp [endQ, rets, ret1, go_sem]
          repeat (refine And.intro (by first | omega | (intros; omega) | grind) ?_)
          exact TLe.t (.cons (PLe.flt (PLe.ext (.c (.w true _)))) (.cons (by rw [if_neg (by omega)]; exact PLe.refl _) .nil))
end Go.Proofs.YtokgalpflooegaaGreatDoor
