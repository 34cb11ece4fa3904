/- Quotients rounded, and rounded to odd, by the program. No condition. Rounded to odd, the program: the plain cases. No condition. Rounded to odd, the program: what is less than the least float. No condition. Rounded to odd, the program: a float. No condition. Rounded to odd, the program. No condition. What is rounded without flags; what is beyond the greatest float; plain. No condition. Rounded to odd, by the reference. No condition. Rounded to odd, by the reference: the whole. No condition. Rounded to odd by the reference, joined. No condition. The law ConvertOdds. No condition. -/
import Derived.Test.YtokgalpflooegaaDoorMk
import Derived.Test.YtokgalpflooegaaDoorMi
import Derived.Test.YtokgalpflooegaaDoorMg
import Derived.KernelRfl
import Derived.Test.YtokgalpflooegaaDoorMh
/- Quotients rounded, and rounded to odd, by the program. No condition. -/
namespace Go.Proofs.YtokgalpflooegaaDoor
set_option linter.unusedVariables false
set_option linter.unusedSimpArgs false
set_option maxHeartbeats 8000000
set_option maxRecDepth 10000
theorem Ratio_does {f p r : Int} (hf : fmOk f p = true) (hr : 0 ≤ r) (hr' : r ≤ 4) {n : Bool} {m d : List Nat} (hm : m.length ≤ 4096) (wm : Ws m) (hd : d.length ≤ 4096) (wd : Ws d) (h0 : 0 < val m) (h1 : 0 < val d) {K : Nat} (hK : p + 3 + bl (val d) ≤ K) :
    Does Tryd.prog Gv 61 [Fm f p, .c (.i .i64 r), .c (.b n), Wd m, Wd d, .c (.i .i64 0)] (.t [(ratP f p r n (val m) (val d) K).1.pv, .c (.i .i64 (ratP f p r n (val m) (val d) K).2)]) := by
  obtain ⟨b1, b2, b3, b4⟩ := fmOk_spec hf
  have hbm : bl (val m) ≤ 64 * m.length := bl_le_len wm (Nat.le_refl _)
  have hbd : bl (val d) ≤ 64 * d.length := bl_le_len wd (Nat.le_refl _)
  have hpm := bl_pos h0
  have hL := @Len_does Gv m (by unfold Sh; omega) wm
  have hL1 := @Len_does Gv d (by unfold Sh; omega) wd
  by_cases hs : p + 3 - bl (val m) + bl (val d) > 0
  · obtain ⟨s, hs'⟩ : ∃ s : Nat, p + 3 - bl (val m) + bl (val d) = s := ⟨(p + 3 - bl (val m) + bl (val d)).toNat, by omega⟩
    have hen := @quo_enough (val m) (val d) s p h0 h1 (by omega) (by omega)
    rw [ratP_deep (K := K) (s := s) (by omega) h1 (by omega) (by omega)]
    have hS := @Shl_does Gv m (by unfold Sh; omega) wm s (by omega)
    have hbl : bl (val m * 2 ^ s) = s + bl (val m) := bl_mul_pow _ _ h0
    have hlen := len_bl (show bl (val m * 2 ^ s) ≤ 600000 by omega)
    have hD := @WDivMod_does Gv (nat (val m * 2 ^ s)) d (by omega) (nat_ws _) (by omega) wd h1
    rw [val_nat] at hD
    have hqb := bl_mono (Nat.div_le_self (val m * 2 ^ s) (val d))
    have hrb := len_bl (Nat.le_trans (bl_mono (Nat.mod_le (val m * 2 ^ s) (val d))) (show bl (val m * 2 ^ s) ≤ 600000 by omega))
    have hZ := @Zero_does Gv (nat (val m * 2 ^ s % val d)) (by unfold Sh; omega)
    rw [val_nat] at hZ
    have hF := @Float_does f p r hf hr hr' n (quoM (val m) (val d) s) (0 - (s : Int)) (quoS (val m) (val d) s) (by omega) (by unfold quoM; omega)
    rw [Int.zero_sub] at hF
    have e1 : val m * 2 ^ s / val d = quoM (val m) (val d) s := rfl
    have e2 : (!decide (val m * 2 ^ s % val d = 0)) = quoS (val m) (val d) s := rfl
    rw [e1] at hD
    unfold ratP
    generalize roundP f p r n (quoM (val m) (val d) s) (-(s : Int)) (quoS (val m) (val d) s) = z at *
    generalize quoM (val m) (val d) s = q at *
    rw [← e2] at hF
    generalize val m * 2 ^ s = u at *
    generalize u % val d = w at *
    refine Does.of (nt := 50) Tryd.func61 rfl rfl rfl (by simp) ?_
    simp only [argTm, PV.ext, Ce.ext]
    refine Do.seqk fun _ k1_ => ?_
    refine Do.region [1,2,3,4,5,6,12] true ?_
    simp [go_sem]
    apply k1_; clear k1_
    refine Do.seqk fun _ k2_ => ?_
    refine Do.draw [1,2,3,4,5,6,12,14] true (by kernel_rfl) ?_
    simp [go_sem]
    repeat (refine And.intro (by first | omega | (intros; omega) | kernel_rfl | grind) ?_)
    refine DoLD.call true 105 rfl rfl rfl rfl (by first | exact trivial | omega | (simp; done) | (simp; omega)) (hL) rfl (by first | exact .inl rfl | exact .inr rfl) rfl ?_
    simp [go_sem]
    repeat (refine And.intro (by first | omega | (intros; omega) | kernel_rfl | grind) ?_)
    refine DoLD.call true 108 rfl rfl rfl rfl (by first | exact trivial | omega | (simp; done) | (simp; omega)) (hL1) rfl (by first | exact .inl rfl | exact .inr rfl) rfl ?_
    simp [go_sem]
    repeat (refine And.intro (by first | omega | (intros; omega) | kernel_rfl | grind) ?_)
    try (refine And.intro (by kernel_rfl) ?_)
    apply k2_; clear k2_
    refine Do.seqk fun _ k3_ => ?_
    refine Do.seqk fun _ k4_ => ?_
    refine Do.region [1,2,3,4,5,6,12,14,27] true ?_
    simp [go_sem, hs']
    apply k4_; clear k4_
    refine Do.cond [1,2,3,4,5,6,12,14] rfl (fun g1 => ?_) (fun g1 => ?_) <;> simp [go_sem, hs'] at g1 ⊢
    · refine Do.region [1,2,3,4,5,6,12,14] true ?_
      simp [go_sem, hs']
      refine DoL.call true 303 rfl rfl rfl rfl (by first | exact trivial | omega | (simp; done) | (simp; omega)) (hS) rfl (by first | exact .inl rfl | exact .inr rfl) rfl ?_
      simp [go_sem, hs']
      apply k3_; clear k3_
      refine Do.seqk fun _ k5_ => ?_
      refine Do.region [1,2,5,6,12,14,15,16] true ?_
      simp [go_sem, hs']
      refine DoL.call true 503 rfl rfl rfl rfl (by first | exact trivial | omega | (simp; done) | (simp; omega)) (hD) rfl (by first | exact .inl rfl | exact .inr rfl) rfl ?_
      simp [go_sem, hs']
      apply k5_; clear k5_
      refine Do.seqk fun _ k6_ => ?_
      refine Do.draw [12,13] true (by kernel_rfl) ?_
      simp [go_sem, hs']
      repeat (refine And.intro (by first | omega | (intros; omega) | kernel_rfl | grind) ?_)
      refine DoLD.call true 609 rfl rfl rfl rfl (by first | exact trivial | omega | (simp; done) | (simp; omega)) (hZ) rfl (by first | exact .inl rfl | exact .inr rfl) rfl ?_
      simp [go_sem, hs']
      repeat (refine And.intro (by first | omega | (intros; omega) | kernel_rfl | grind) ?_)
      refine DoLD.call true 611 rfl rfl rfl rfl (by first | exact trivial | omega | (simp; done) | (simp; omega)) (hF) rfl (by first | exact .inl rfl | exact .inr rfl) rfl ?_
      simp [go_sem, hs']
      repeat (refine And.intro (by first | omega | (intros; omega) | kernel_rfl | grind) ?_)
      try (refine And.intro (by kernel_rfl) ?_)
      apply k6_; clear k6_
      refine Do.ret ?_
      simp [endQ, rets, ret1, go_sem, hs']
      repeat (refine And.intro (by first | omega | (intros; omega) | grind) ?_)
      exact TLe.refl _
    · omega
  · have hen := @quo_enough (val m) (val d) 0 p h0 h1 (by omega) (by omega)
    rw [ratP_deep (K := K) (s := 0) (by omega) h1 (by omega) (by omega)]
    have hD := @WDivMod_does Gv m d (by omega) wm (by omega) wd h1
    have hqb := bl_mono (Nat.div_le_self (val m) (val d))
    have hrb := len_bl (Nat.le_trans (bl_mono (Nat.mod_le (val m) (val d))) (show bl (val m) ≤ 600000 by omega))
    have hZ := @Zero_does Gv (nat (val m % val d)) (by unfold Sh; omega)
    rw [val_nat] at hZ
    have e0 : quoM (val m) (val d) 0 = val m / val d := by unfold quoM; rw [Nat.pow_zero, Nat.mul_one]
    have e2 : quoS (val m) (val d) 0 = !decide (val m % val d = 0) := by unfold quoS; rw [Nat.pow_zero, Nat.mul_one]
    have hF := @Float_does f p r hf hr hr' n (val m / val d) 0 (!decide (val m % val d = 0)) (by omega) (by omega)
    unfold ratP
    rw [e0, e2, show (-((0 : Nat) : Int)) = 0 from rfl]
    generalize roundP f p r n (val m / val d) 0 (!decide (val m % val d = 0)) = z at *
    generalize val m / val d = q at *
    generalize val m % val d = w at *
    refine Does.of (nt := 50) Tryd.func61 rfl rfl rfl (by simp) ?_
    simp only [argTm, PV.ext, Ce.ext]
    refine Do.seqk fun _ k1_ => ?_
    refine Do.region [1,2,3,4,5,6,12] true ?_
    simp [go_sem]
    apply k1_; clear k1_
    refine Do.seqk fun _ k2_ => ?_
    refine Do.draw [1,2,3,4,5,6,12,14] true (by kernel_rfl) ?_
    simp [go_sem]
    repeat (refine And.intro (by first | omega | (intros; omega) | kernel_rfl | grind) ?_)
    refine DoLD.call true 105 rfl rfl rfl rfl (by first | exact trivial | omega | (simp; done) | (simp; omega)) (hL) rfl (by first | exact .inl rfl | exact .inr rfl) rfl ?_
    simp [go_sem]
    repeat (refine And.intro (by first | omega | (intros; omega) | kernel_rfl | grind) ?_)
    refine DoLD.call true 108 rfl rfl rfl rfl (by first | exact trivial | omega | (simp; done) | (simp; omega)) (hL1) rfl (by first | exact .inl rfl | exact .inr rfl) rfl ?_
    simp [go_sem]
    repeat (refine And.intro (by first | omega | (intros; omega) | kernel_rfl | grind) ?_)
    try (refine And.intro (by kernel_rfl) ?_)
    apply k2_; clear k2_
    refine Do.seqk fun _ k3_ => ?_
    refine Do.seqk fun _ k4_ => ?_
    refine Do.region [1,2,3,4,5,6,12,14,27] true ?_
    simp [go_sem]
    apply k4_; clear k4_
    refine Do.cond [1,2,3,4,5,6,12,14] rfl (fun g1 => ?_) (fun g1 => ?_) <;> simp [go_sem] at g1 ⊢
    · exact absurd g1 (by omega)
    · refine Do.region [1,2,3,4,5,6,12,14] true ?_
      simp [go_sem]
      apply k3_; clear k3_
      refine Do.seqk fun _ k5_ => ?_
      refine Do.region [1,2,5,6,12,14,15,16] true ?_
      simp [go_sem]
      refine DoL.call true 503 rfl rfl rfl rfl (by first | exact trivial | omega | (simp; done) | (simp; omega)) (hD) rfl (by first | exact .inl rfl | exact .inr rfl) rfl ?_
      simp [go_sem]
      apply k5_; clear k5_
      refine Do.seqk fun _ k6_ => ?_
      refine Do.draw [12,13] true (by kernel_rfl) ?_
      simp [go_sem]
      repeat (refine And.intro (by first | omega | (intros; omega) | kernel_rfl | grind) ?_)
      refine DoLD.call true 609 rfl rfl rfl rfl (by first | exact trivial | omega | (simp; done) | (simp; omega)) (hZ) rfl (by first | exact .inl rfl | exact .inr rfl) rfl ?_
      simp [go_sem]
      repeat (refine And.intro (by first | omega | (intros; omega) | kernel_rfl | grind) ?_)
      refine DoLD.call true 611 rfl rfl rfl rfl (by first | exact trivial | omega | (simp; done) | (simp; omega)) (hF) rfl (by first | exact .inl rfl | exact .inr rfl) rfl ?_
      simp [go_sem]
      repeat (refine And.intro (by first | omega | (intros; omega) | kernel_rfl | grind) ?_)
      try (refine And.intro (by kernel_rfl) ?_)
      apply k6_; clear k6_
      refine Do.ret ?_
      simp [endQ, rets, ret1, go_sem]
      repeat (refine And.intro (by first | omega | (intros; omega) | grind) ?_)
      exact TLe.refl _
/-- A rational number rounded, or the error. -/
def roundD (f p r : Int) (n : Bool) (m d : List Nat) (K : Nat) : Flt × Int × Int :=
  if checkQ r m d ≠ 0 then (⟨0, false, 0, 0⟩, 0, checkQ r m d) else if fmOk f p = false then (⟨0, false, 0, 0⟩, 0, 150)
  else if val m = 0 then (⟨0, false, 0, 0⟩, 0, 0) else ((ratP f p r n (val m) (val d) K).1, (ratP f p r n (val m) (val d) K).2, 0)
theorem RoundD_does {f p r : Int} {n : Bool} {m d : List Nat} (hm : Sh m) (wm : Ws m) (hd : Sh d) (wd : Ws d) {K : Nat} (hK : 300 + bl (val d) ≤ K) : Does Tryd.prog Gv 25 [Fm f p, .c (.i .i64 r), Qr n m d] (Res (roundD f p r n m d K)) := by
  unfold roundD
  by_cases h : checkQ r m d = 0
  · rw [if_neg (by omega)]
    cases hf : fmOk f p with
    | false => rw [if_pos rfl]; exact Round_fmt20 hm hd h hf
    | true =>
      rw [if_neg (by simp)]
      by_cases h0 : val m = 0
      · rw [if_pos h0]; exact Round_zero20 hm hd h hf h0
      · rw [if_neg h0]
        obtain ⟨c1, c2, c3, c4, c5⟩ := checkQ_zero h
        obtain ⟨b1, b2, b3, b4⟩ := fmOk_spec hf
        have hC := @check_does20 r n m d hm hd
        rw [h] at hC
        have hF := @Check_does Gv f p
        rw [if_pos hf] at hF
        have hZ := @Zero_does Gv m hm
        rw [decide_eq_false h0] at hZ
        have hR := @Ratio_does f p r hf c4 c5 n m d c1 wm c2 wd (by omega) (by omega) K (by omega)
        generalize ratP f p r n (val m) (val d) K = z at *
        refine Does.of (nt := 46) Tryd.func25 rfl rfl rfl (by simp) ?_
        simp only [argTm, PV.ext, Ce.ext]
        refine Do.seqk fun _ k1_ => ?_
        refine Do.region [1,3,5,6] true ?_
        simp [go_sem]
        apply k1_; clear k1_
        refine Do.seqk fun _ k2_ => ?_
        refine Do.region [1,3,5,6,9] true ?_
        simp [go_sem]
        repeat (refine And.intro (by first | omega | (intros; omega) | grind) ?_)
        refine DoL.sealS true 103 102 rfl ?_
        simp [go_sem]
        refine DoL.call true 104 rfl rfl rfl rfl (by first | exact trivial | omega | (simp; done) | (simp; omega)) (hC) rfl (by first | exact .inl rfl | exact .inr rfl) rfl ?_
        simp [go_sem]
        apply k2_; clear k2_
        refine Do.seqk fun _ k3_ => ?_
        refine Do.seqk fun _ k4_ => ?_
        refine Do.region [1,3,5,6,9,17] true ?_
        simp [go_sem]
        apply k4_; clear k4_
        refine Do.cond [1,3,5,6,9] rfl (fun g1 => ?_) (fun g1 => ?_) <;> simp [go_sem] at g1 ⊢
        refine Do.region [1,3,5,6,9] true ?_
        simp [go_sem]
        repeat (refine And.intro (by first | omega | (intros; omega) | grind) ?_)
        refine DoL.call true 302 rfl rfl rfl rfl (by first | exact trivial | omega | (simp; done) | (simp; omega)) (hF) rfl (by first | exact .inl rfl | exact .inr rfl) rfl ?_
        simp [go_sem]
        apply k3_; clear k3_
        refine Do.seqk fun _ k5_ => ?_
        refine Do.seqk fun _ k6_ => ?_
        refine Do.region [1,3,5,6,9,27] true ?_
        simp [go_sem]
        repeat (refine And.intro (by first | omega | (intros; omega) | grind) ?_)
        refine DoL.callg true 407 rfl rfl rfl rfl rfl (by simp [go_sem] <;> omega) (fun _ => hZ) rfl (by first | exact .inl rfl | exact .inr rfl) rfl ?_
        simp [go_sem]
        apply k6_; clear k6_
        refine Do.cond [1,3,5,6,9] rfl (fun g2 => ?_) (fun g2 => ?_) <;> simp [go_sem] at g2 ⊢
        refine Do.skip ?_
        simp [go_sem]
        apply k5_; clear k5_
        refine Do.seqk fun _ k7_ => ?_
        refine Do.region [6,10,11] true ?_
        simp [go_sem]
        repeat (refine And.intro (by first | omega | (intros; omega) | grind) ?_)
        refine DoL.call true 611 rfl rfl rfl rfl (by first | exact trivial | omega | (simp; done) | (simp; omega)) (hR) rfl (by first | exact .inl rfl | exact .inr rfl) rfl ?_
        simp [go_sem]
        repeat (refine And.intro (by first | omega | (intros; omega) | grind) ?_)
        apply k7_; clear k7_
        refine Do.seqk fun _ k8_ => ?_
        refine Do.region [6,7,8] true ?_
        simp [go_sem]
        repeat (refine And.intro (by first | omega | (intros; omega) | grind) ?_)
        apply k8_; clear k8_
        refine Do.ret ?_
        simp [endQ, rets, ret1, go_sem]
        repeat (refine And.intro (by first | omega | (intros; omega) | grind) ?_)
        exact TLe.refl _
  · rw [if_pos h]; exact Round_err20 hm hd h
end Go.Proofs.YtokgalpflooegaaDoor
/- Rounded to odd, the program: the plain cases. No condition. -/
namespace Go.Proofs.YtokgalpflooegaaDoor
set_option linter.unusedVariables false
set_option linter.unusedSimpArgs false
set_option maxHeartbeats 8000000
set_option maxRecDepth 10000
/-- A rational number rounded to odd, or the error. -/
def oddD (f p : Int) (n : Bool) (m d : List Nat) (K : Nat) : Flt × Int × Int :=
  if checkQ 2 m d ≠ 0 then (⟨0, false, 0, 0⟩, 0, checkQ 2 m d) else if fmOk f p = false then (⟨0, false, 0, 0⟩, 0, 150)
  else if val m = 0 then (⟨0, false, 0, 0⟩, 0, 0)
  else ((oddP f p n (quoM (val m) (val d) K) (-(K : Int)) (quoS (val m) (val d) K)).1, (oddP f p n (quoM (val m) (val d) K) (-(K : Int)) (quoS (val m) (val d) K)).2, 0)
theorem cmp_eq0 (a b : Nat) : ((if a < b then (-1 : Int) else if b < a then 1 else 0) = 0) ↔ a = b := by split <;> (try split) <;> omega
theorem Odd_same {f p : Int} {n : Bool} {m d : List Nat} {x : Flt × Int × Int} (hR : Does Tryd.prog Gv 25 [Fm f p, .c (.i .i64 2), Qr n m d] (Res x)) (h : x.2.2 ≠ 0 ∨ x.2.1 = 0) : Does Tryd.prog Gv 24 [Fm f p, Qr n m d] (Res x) := by
  by_cases he : x.2.2 = 0
  · have hfl : x.2.1 = 0 := by omega
    have e1 : (x.2.2 != 0) = false := by simp [he]
    have e2 : (x.2.1 == 0) = true := by simp [hfl]
    refine Does.of (nt := 109) Tryd.func24 rfl rfl rfl (by simp) ?_
    simp only [argTm, PV.ext, Ce.ext]
    refine Do.seqk fun _ k1_ => ?_
    refine Do.region [2,3,4] true ?_
    simp [go_sem]
    apply k1_; clear k1_
    refine Do.seqk fun _ k2_ => ?_
    refine Do.region [2,3,4,7,8,9] true ?_
    simp [go_sem]
    repeat (refine And.intro (by first | omega | (intros; omega) | grind) ?_)
    refine DoL.call true 103 rfl rfl rfl rfl (by first | exact trivial | omega | (simp; done) | (simp; omega)) (hR) rfl (by first | exact .inl rfl | exact .inr rfl) rfl ?_
    simp [go_sem]
    repeat (refine And.intro (by first | omega | (intros; omega) | grind) ?_)
    apply k2_; clear k2_
    refine Do.seqk fun _ k3_ => ?_
    refine Do.seqk fun _ k4_ => ?_
    refine Do.region [2,3,4,7,8,9,31] true ?_
    simp [go_sem, e1, e2]
    apply k4_; clear k4_
    refine Do.cond [2,3,4,7,8,9] rfl (fun g1 => ?_) (fun g1 => ?_) <;> simp [go_sem, e1, e2] at g1 ⊢
    refine Do.seqk fun _ k5_ => ?_
    refine Do.region [4,5,6] true ?_
    simp [go_sem, e1, e2]
    repeat (refine And.intro (by first | omega | (intros; omega) | grind) ?_)
    apply k5_; clear k5_
    refine Do.ret ?_
    simp [endQ, rets, ret1, go_sem, e1, e2]
    repeat (refine And.intro (by first | omega | (intros; omega) | grind) ?_)
    exact TLe.refl _
  · have e1 : (x.2.2 != 0) = true := by simp [he]
    refine Does.of (nt := 109) Tryd.func24 rfl rfl rfl (by simp) ?_
    simp only [argTm, PV.ext, Ce.ext]
    refine Do.seqk fun _ k1_ => ?_
    refine Do.region [2,3,4] true ?_
    simp [go_sem]
    apply k1_; clear k1_
    refine Do.seqk fun _ k2_ => ?_
    refine Do.region [2,3,4,7,8,9] true ?_
    simp [go_sem]
    repeat (refine And.intro (by first | omega | (intros; omega) | grind) ?_)
    refine DoL.call true 103 rfl rfl rfl rfl (by first | exact trivial | omega | (simp; done) | (simp; omega)) (hR) rfl (by first | exact .inl rfl | exact .inr rfl) rfl ?_
    simp [go_sem]
    repeat (refine And.intro (by first | omega | (intros; omega) | grind) ?_)
    apply k2_; clear k2_
    refine Do.seqk fun _ k3_ => ?_
    refine Do.seqk fun _ k4_ => ?_
    refine Do.region [2,3,4,7,8,9,31] true ?_
    simp [go_sem, e1]
    apply k4_; clear k4_
    refine Do.cond [2,3,4,7,8,9] rfl (fun g1 => ?_) (fun g1 => ?_) <;> simp [go_sem, e1] at g1 ⊢
    refine Do.seqk fun _ k5_ => ?_
    refine Do.region [4,5,6] true ?_
    simp [go_sem, e1]
    repeat (refine And.intro (by first | omega | (intros; omega) | grind) ?_)
    apply k5_; clear k5_
    refine Do.ret ?_
    simp [endQ, rets, ret1, go_sem, e1]
    repeat (refine And.intro (by first | omega | (intros; omega) | grind) ?_)
    exact TLe.refl _
theorem Odd_top {f p fl : Int} (hf : fmOk f p = true) {n : Bool} {m d : List Nat} (h0 : fl ≠ 0) (hR : Does Tryd.prog Gv 25 [Fm f p, .c (.i .i64 2), Qr n m d] (Res (⟨1, n, gOfE f - p + 1, 2 ^ p.toNat - 1⟩, fl, 0))) : Does Tryd.prog Gv 24 [Fm f p, Qr n m d] (Res (⟨1, n, gOfE f - p + 1, 2 ^ p.toNat - 1⟩, 5, 0)) := by
  obtain ⟨b1, b2, b3, b4⟩ := fmOk_spec hf
  have e2 : (fl == 0) = false := by simp [h0]
  have hG := @Range_does Gv f p hf
  have hL := @Limits_does Gv f p hf
  have hlb : bl (2 ^ p.toNat - 1) ≤ 256 := by
    rw [bl_lt]
    have h1 : 2 ^ p.toNat ≤ 2 ^ 256 := Nat.pow_le_pow_right (by decide) (by omega)
    have := two_pos' p.toNat
    omega
  have hl := len_bl hlb
  have hC := @Cmp_does Gv (nat (2 ^ p.toNat - 1)) (nat (2 ^ p.toNat - 1)) (by unfold Sh; omega) (by unfold Sh; omega) (nat_ws _) (nat_ws _)
  rw [if_neg (Nat.lt_irrefl _), if_neg (Nat.lt_irrefl _)] at hC
  generalize 2 ^ p.toNat - 1 = T at *
  generalize gOfE f - p + 1 = E at *
  generalize 1 - gOfE f = L at *
  generalize L - (p - 1) = L2 at *
  generalize gOfE f = g at *
  refine Does.of (nt := 109) Tryd.func24 rfl rfl rfl (by simp) ?_
  simp only [argTm, PV.ext, Ce.ext]
  refine Do.seqk fun _ k1_ => ?_
  refine Do.region [2,3,4] true ?_
  simp [go_sem]
  apply k1_; clear k1_
  refine Do.seqk fun _ k2_ => ?_
  refine Do.region [2,3,4,7,8,9] true ?_
  simp [go_sem]
  repeat (refine And.intro (by first | omega | (intros; omega) | grind) ?_)
  refine DoL.call true 103 rfl rfl rfl rfl (by first | exact trivial | omega | (simp; done) | (simp; omega)) (hR) rfl (by first | exact .inl rfl | exact .inr rfl) rfl ?_
  simp [go_sem]
  repeat (refine And.intro (by first | omega | (intros; omega) | grind) ?_)
  apply k2_; clear k2_
  refine Do.seqk fun _ k3_ => ?_
  refine Do.seqk fun _ k4_ => ?_
  refine Do.region [2,3,4,7,8,9,31] true ?_
  simp [go_sem, e2]
  apply k4_; clear k4_
  refine Do.cond [2,3,4,7,8,9] rfl (fun g1 => ?_) (fun g1 => ?_) <;> simp [go_sem, e2] at g1 ⊢
  refine Do.skip ?_
  simp [go_sem]
  apply k3_; clear k3_
  refine Do.seqk fun _ k5_ => ?_
  refine Do.region [2,3,4,7,8,10] true ?_
  simp [go_sem, e2]
  repeat (refine And.intro (by first | omega | (intros; omega) | grind) ?_)
  refine DoL.call true 402 rfl rfl rfl rfl (by first | exact trivial | omega | (simp; done) | (simp; omega)) (hG) rfl (by first | exact .inl rfl | exact .inr rfl) rfl ?_
  simp [go_sem, e2]
  apply k5_; clear k5_
  refine Do.seqk fun _ k6_ => ?_
  refine Do.seqk fun _ k7_ => ?_
  refine Do.region [2,3,4,7,8,10,14] true ?_
  simp [go_sem, e2]
  repeat (refine And.intro (by first | omega | (intros; omega) | grind) ?_)
  refine DoL.call true 502 rfl rfl rfl rfl (by first | exact trivial | omega | (simp; done) | (simp; omega)) (hL) rfl (by first | exact .inl rfl | exact .inr rfl) rfl ?_
  simp [go_sem, e2]
  repeat (refine And.intro (by first | omega | (intros; omega) | grind) ?_)
  apply k7_; clear k7_
  refine Do.seqk fun _ k8_ => ?_
  refine Do.region [2,3,4,7,8,10,66] true ?_
  simp [go_sem, e2]
  repeat (refine And.intro (by first | omega | (intros; omega) | grind) ?_)
  refine DoL.callg true 616 rfl rfl rfl rfl rfl (by simp [go_sem] <;> omega) (fun _ => hC) rfl (by first | exact .inl rfl | exact .inr rfl) rfl ?_
  simp [go_sem, e2]
  apply k8_; clear k8_
  refine Do.cond [2,3,4,7,8,10] rfl (fun g2 => ?_) (fun g2 => ?_) <;> simp [go_sem, e2] at g2 ⊢
  refine Do.seqk fun _ k9_ => ?_
  refine Do.region [4,5,6] true ?_
  simp [go_sem, e2]
  repeat (refine And.intro (by first | omega | (intros; omega) | grind) ?_)
  apply k9_; clear k9_
  refine Do.ret ?_
  simp [endQ, rets, ret1, go_sem, e2]
  repeat (refine And.intro (by first | omega | (intros; omega) | grind) ?_)
  exact TLe.refl _
end Go.Proofs.YtokgalpflooegaaDoor
/- Rounded to odd, the program: what is less than the least float. No condition. -/
namespace Go.Proofs.YtokgalpflooegaaDoor
set_option linter.unusedVariables false
set_option linter.unusedSimpArgs false
set_option maxHeartbeats 8000000
set_option maxRecDepth 10000
theorem Odd_zero {f p fl : Int} (hf : fmOk f p = true) {n : Bool} {m d : List Nat} (h0 : fl ≠ 0) (hR : Does Tryd.prog Gv 25 [Fm f p, .c (.i .i64 2), Qr n m d] (Res (⟨0, n, 0, 0⟩, fl, 0))) : Does Tryd.prog Gv 24 [Fm f p, Qr n m d] (Res (mkP n 1 (1 - gOfE f - (p - 1)), fl, 0)) := by
  obtain ⟨b1, b2, b3, b4⟩ := fmOk_spec hf
  obtain ⟨b5, b6⟩ := gOfE_le b1 b2
  have e2 : (fl == 0) = false := by simp [h0]
  have hG := @Range_does Gv f p hf
  have hL := @Limits_does Gv f p hf
  have hS := @Step_does Gv f p (1 - gOfE f) hf (by omega) (by omega)
  have e3 : stepP f p (1 - gOfE f) = 1 - gOfE f - (p - 1) := by unfold stepP; rw [if_neg (by omega)]; omega
  rw [e3] at hS
  have hR : Does Tryd.prog Gv 25 [Fm f p, .c (.i .i64 2), Qr n m d] (.t [Fl 0 n 0 (nat 0), .c (.i .i64 fl), .c (.i .i64 0)]) := hR
  obtain ⟨s, hs⟩ : ∃ s : Nat, max 0 (0 - (1 - gOfE f - (p - 1))) = s := ⟨(0 - (1 - gOfE f - (p - 1))).toNat, by omega⟩
  have hSh := @Shl_does Gv (nat 0) (by rw [nat_zero]; decide) (nat_ws _) s (by rw [nat_zero]; simp; omega)
  rw [val_nat, Nat.zero_mul] at hSh
  have hA := @Add_does Gv (nat 0) [1] (by rw [nat_zero]; decide) (by decide) (nat_ws _) (ws_one (by decide)) (by rw [nat_zero]; decide) (by decide)
  rw [val_nat, show 0 + val [1] = 1 from rfl] at hA
  have hM := @Make_does n (nat 1) (1 - gOfE f - (p - 1)) (by rw [nat_one]; decide) (nat_ws _) (by omega) (by omega)
  rw [val_nat] at hM
  have hs2 : max 0 (-(1 - gOfE f - (p - 1))) = (s : Int) := by omega
  have hs3 : -(1 - gOfE f - (p - 1)) = (s : Int) := by omega
  have hpos : (0 : Int) > (1 - gOfE f - (p - 1)) := by omega
  have hsb : s ≤ 100000 := by omega
  have hif : (if 0 < s then (s : Int) else 0) = s := by split <;> omega
  generalize hu : 1 - gOfE f - (p - 1) = u at *
  generalize mkP n 1 u = y at *
  generalize 1 - gOfE f = L at *
  generalize gOfE f - p + 1 = E at *
  generalize 2 ^ p.toNat - 1 = T at *
  generalize gOfE f = g at *
  refine Does.of (nt := 109) Tryd.func24 rfl rfl rfl (by simp) ?_
  simp only [argTm, PV.ext, Ce.ext]
  refine Do.seqk fun _ k1_ => ?_
  refine Do.region [2,3,4] true ?_
  simp [go_sem]
  apply k1_; clear k1_
  refine Do.seqk fun _ k2_ => ?_
  refine Do.region [2,3,4,7,8,9] true ?_
  simp [go_sem]
  repeat (refine And.intro (by first | omega | (intros; omega) | grind) ?_)
  refine DoL.call true 103 rfl rfl rfl rfl (by first | exact trivial | omega | (simp; done) | (simp; omega)) (hR) rfl (by first | exact .inl rfl | exact .inr rfl) rfl ?_
  simp [go_sem]
  repeat (refine And.intro (by first | omega | (intros; omega) | grind) ?_)
  apply k2_; clear k2_
  refine Do.seqk fun _ k3_ => ?_
  refine Do.seqk fun _ k4_ => ?_
  refine Do.region [2,3,4,7,8,9,31] true ?_
  simp [go_sem, e2]
  apply k4_; clear k4_
  refine Do.cond [2,3,4,7,8,9] rfl (fun g1 => ?_) (fun g1 => ?_) <;> simp [go_sem, e2] at g1 ⊢
  refine Do.skip ?_
  simp [go_sem]
  apply k3_; clear k3_
  refine Do.seqk fun _ k5_ => ?_
  refine Do.region [2,3,4,7,8,10] true ?_
  simp [go_sem, e2]
  repeat (refine And.intro (by first | omega | (intros; omega) | grind) ?_)
  refine DoL.call true 402 rfl rfl rfl rfl (by first | exact trivial | omega | (simp; done) | (simp; omega)) (hG) rfl (by first | exact .inl rfl | exact .inr rfl) rfl ?_
  simp [go_sem, e2]
  apply k5_; clear k5_
  refine Do.seqk fun _ k6_ => ?_
  refine Do.seqk fun _ k7_ => ?_
  refine Do.region [2,3,4,7,8,10,14] true ?_
  simp [go_sem, e2]
  repeat (refine And.intro (by first | omega | (intros; omega) | grind) ?_)
  refine DoL.call true 502 rfl rfl rfl rfl (by first | exact trivial | omega | (simp; done) | (simp; omega)) (hL) rfl (by first | exact .inl rfl | exact .inr rfl) rfl ?_
  simp [go_sem, e2]
  repeat (refine And.intro (by first | omega | (intros; omega) | grind) ?_)
  apply k7_; clear k7_
  refine Do.seqk fun _ k8_ => ?_
  refine Do.region [2,3,4,7,8,10,66] true ?_
  simp [go_sem, e2]
  repeat (refine And.intro (by first | omega | (intros; omega) | grind) ?_)
  refine DoL.gOff true 616 rfl rfl (.int .i64 0) rfl ?_
  simp [go_sem, e2]
  apply k8_; clear k8_
  refine Do.cond [2,3,4,7,8,10] rfl (fun g2 => ?_) (fun g2 => ?_) <;> simp [go_sem, e2] at g2 ⊢
  refine Do.skip ?_
  simp [go_sem]
  apply k6_; clear k6_
  refine Do.seqk fun _ k9_ => ?_
  refine Do.region [2,3,4,7,8,18] true ?_
  simp [go_sem, e2]
  repeat (refine And.intro (by first | omega | (intros; omega) | grind) ?_)
  refine DoL.call true 803 rfl rfl rfl rfl (by first | exact trivial | omega | (simp; done) | (simp; omega)) (hS) rfl (by first | exact .inl rfl | exact .inr rfl) rfl ?_
  simp [go_sem, e2]
  apply k9_; clear k9_
  refine Do.seqk fun _ k10_ => ?_
  refine Do.seqk fun _ k11_ => ?_
  refine Do.region [2,3,4,7,8,18,73] true ?_
  simp [go_sem, e2]
  repeat (refine And.intro (by first | omega | (intros; omega) | grind) ?_)
  apply k11_; clear k11_
  refine Do.cond [2,3,4,7,8,18] rfl (fun g3 => ?_) (fun g3 => ?_) <;> simp [go_sem, e2] at g3 ⊢
  refine Do.skip ?_
  simp [go_sem]
  apply k10_; clear k10_
  refine Do.seqk fun _ k12_ => ?_
  refine Do.seqk fun _ k13_ => ?_
  refine Do.region [3,4,7,8,18,91] true ?_
  simp [go_sem, e2]
  repeat (refine And.intro (by first | omega | (intros; omega) | grind) ?_)
  apply k13_; clear k13_
  refine Do.cond [3,4,7,8,18] rfl (fun g4 => ?_) (fun g4 => ?_) <;> simp [go_sem, e2] at g4 ⊢
  refine Do.draw [4,7,8] true (by kernel_rfl) ?_
  simp [go_sem, hs, hs2, hs3, hif]
  repeat (refine And.intro (by first | omega | (intros; omega) | kernel_rfl | grind) ?_)
  refine DoLD.call true 1211 rfl rfl rfl rfl (by first | exact trivial | omega | (simp; done) | (simp; omega)) (hSh) rfl (by first | exact .inl rfl | exact .inr rfl) rfl ?_
  simp [go_sem, hs, hs2, hs3, hif]
  refine DoLD.call true 1213 rfl rfl rfl rfl (by first | exact trivial | omega | (simp; done) | (simp; omega)) (hA) rfl (by first | exact .inl rfl | exact .inr rfl) rfl ?_
  simp [go_sem, hs, hs2, hs3, hif]
  refine DoLD.call true 1215 rfl rfl rfl rfl (by first | exact trivial | omega | (simp; done) | (simp; omega)) (hM) rfl (by first | exact .inl rfl | exact .inr rfl) rfl ?_
  simp [go_sem, hs, hs2, hs3, hif]
  repeat (refine And.intro (by first | omega | (intros; omega) | kernel_rfl | grind) ?_)
  try (refine And.intro (by kernel_rfl) ?_)
  apply k12_; clear k12_
  refine Do.seqk fun _ k14_ => ?_
  refine Do.region [4,5,6] true ?_
  simp [go_sem, hs, hs2, hs3, hif]
  repeat (refine And.intro (by first | omega | (intros; omega) | grind) ?_)
  apply k14_; clear k14_
  refine Do.ret ?_
  simp [endQ, rets, ret1, go_sem, hs, hs2, hs3, hif]
  repeat (refine And.intro (by first | omega | (intros; omega) | grind) ?_)
  exact TLe.refl _
end Go.Proofs.YtokgalpflooegaaDoor
/- Rounded to odd, the program: a float. No condition. -/
namespace Go.Proofs.YtokgalpflooegaaDoor
set_option linter.unusedVariables false
set_option linter.unusedSimpArgs false
set_option maxHeartbeats 8000000
set_option maxRecDepth 10000
theorem Odd_fin {f p fl : Int} (hf : fmOk f p = true) {n : Bool} {m d : List Nat} (h0 : fl ≠ 0) {c : Nat} {u : Int} (hc0 : c ≠ 0) (hcb : (bl c : Int) ≤ p) (hu1 : -100000 ≤ u) (hu2 : u ≤ 100000) (hst : stepP f p (u + bl c - 1) = u) (hnt : ¬ (c = 2 ^ p.toNat - 1 ∧ u = gOfE f - p + 1)) (hR : Does Tryd.prog Gv 25 [Fm f p, .c (.i .i64 2), Qr n m d] (Res (mkP n c u, fl, 0))) : Does Tryd.prog Gv 24 [Fm f p, Qr n m d] (Res (mkP n (oddN c) u, fl, 0)) := by
  obtain ⟨b1, b2, b3, b4⟩ := fmOk_spec hf
  obtain ⟨b5, b6⟩ := gOfE_le b1 b2
  have e2 : (fl == 0) = false := by simp [h0]
  have hG := @Range_does Gv f p hf
  have hL := @Limits_does Gv f p hf
  have hS := @Step_does Gv f p (1 - gOfE f) hf (by omega) (by omega)
  have e3 : stepP f p (1 - gOfE f) = 1 - gOfE f - (p - 1) := by unfold stepP; rw [if_neg (by omega)]; omega
  rw [e3] at hS
  have hcl : c < 2 ^ p.toNat := bl_full (by omega)
  have hmt := (@mk_top n c p.toNat u (gOfE f - p + 1) (by omega) hcl)
  have hk : (mkP n c u) = ⟨1, n, u + tz c, c / 2 ^ tz c⟩ := by unfold mkP; rw [if_neg hc0]
  rw [hk] at hmt hR
  have hnt2 := fun h => hnt (hmt.1 h)
  simp only [true_and] at hnt2
  have htz := tz_lt_bl (Nat.pos_of_ne_zero hc0)
  have hbv : bl (c / 2 ^ tz c) = bl c - tz c := bl_div c (tz c)
  have hVl := len_bl (show bl (c / 2 ^ tz c) ≤ 256 by omega)
  have hlb : bl (2 ^ p.toNat - 1) ≤ 256 := by
    rw [bl_lt]
    have h1 : 2 ^ p.toNat ≤ 2 ^ 256 := Nat.pow_le_pow_right (by decide) (by omega)
    have := two_pos' p.toNat
    omega
  have hl := len_bl hlb
  have hC := @Cmp_does Gv (nat (c / 2 ^ tz c)) (nat (2 ^ p.toNat - 1)) (by unfold Sh; omega) (by unfold Sh; omega) (nat_ws _) (nat_ws _)
  rw [val_nat, val_nat] at hC
  have hcz := cmp_eq0 (c / 2 ^ tz c) (2 ^ p.toNat - 1)
  have hN := @Len_does Gv (nat (c / 2 ^ tz c)) (by unfold Sh; omega) (nat_ws _)
  rw [val_nat, hbv] at hN
  have hS2 := @Step_does Gv f p (u + bl c - 1) hf (by omega) (by omega)
  rw [hst] at hS2
  have hsum : u + (tz c : Int) + ((bl c - tz c : Nat) : Int) - 1 = u + bl c - 1 := by omega
  obtain ⟨mm, hmm⟩ := tz_form (Nat.pos_of_ne_zero hc0)
  have hq : c / 2 ^ tz c = 2 * mm + 1 := by
    conv => lhs; arg 1; rw [hmm]
    exact Nat.mul_div_cancel_left _ (two_pos' _)
  have hback : c / 2 ^ tz c * 2 ^ tz c = c := by rw [hq, Nat.mul_comm]; exact hmm.symm
  have hSh := @Shl_does Gv (nat (c / 2 ^ tz c)) (by unfold Sh; omega) (nat_ws _) (tz c) (by omega)
  rw [val_nat, hback] at hSh
  have hcl2 := len_bl (show bl c ≤ 256 by omega)
  have hA := @Add_does Gv (nat c) [1] (by unfold Sh; omega) (by decide) (nat_ws _) (ws_one (by decide)) (by omega) (by decide)
  rw [val_nat, show c + val [1] = c + 1 from rfl] at hA
  have hcl3 := len_bl (show bl (c + 1) ≤ 257 by have := bl_add_le c 1 256 (by omega) (by decide); omega)
  have hM := @Make_does n (nat (c + 1)) u (by unfold Sh; omega) (nat_ws _) (by omega) (by omega)
  rw [val_nat] at hM
  have hpar : c % 2 = 1 ↔ tz c = 0 := by
    constructor
    · exact tz_odd1
    · intro h; rw [h, Nat.pow_zero, Nat.div_one] at hq; omega
  by_cases hodd : c % 2 = 1
  · have ht := hpar.1 hodd
    have e4 : oddN c = c := by unfold oddN; rw [if_pos hodd]
    rw [e4, hk]
    generalize c / 2 ^ tz c = V at *
    rw [ht] at *
    rw [show u + ((0 : Nat) : Int) = u by omega] at *
    have hsum2 : u + ((bl c - 0 : Nat) : Int) - 1 = u + bl c - 1 := by omega
    generalize (if V < 2 ^ p.toNat - 1 then (-1 : Int) else if 2 ^ p.toNat - 1 < V then 1 else 0) = cm at *
    generalize 2 ^ p.toNat - 1 = T at *
    generalize gOfE f - p + 1 = E at *
    generalize 1 - gOfE f = L at *
    generalize L - (p - 1) = L2 at *
    generalize gOfE f = g at *
    have hno : ¬ (u = E ∧ cm = 0) := fun h => hnt2 ⟨h.1, hcz.1 h.2⟩
    refine Does.of (nt := 109) Tryd.func24 rfl rfl rfl (by simp) ?_
    simp only [argTm, PV.ext, Ce.ext]
    refine Do.seqk fun _ k1_ => ?_
    refine Do.region [2,3,4] true ?_
    simp [go_sem]
    apply k1_; clear k1_
    refine Do.seqk fun _ k2_ => ?_
    refine Do.region [2,3,4,7,8,9] true ?_
    simp [go_sem]
    repeat (refine And.intro (by first | omega | (intros; omega) | grind) ?_)
    refine DoL.call true 103 rfl rfl rfl rfl (by first | exact trivial | omega | (simp; done) | (simp; omega)) (hR) rfl (by first | exact .inl rfl | exact .inr rfl) rfl ?_
    simp [go_sem]
    repeat (refine And.intro (by first | omega | (intros; omega) | grind) ?_)
    apply k2_; clear k2_
    refine Do.seqk fun _ k3_ => ?_
    refine Do.seqk fun _ k4_ => ?_
    refine Do.region [2,3,4,7,8,9,31] true ?_
    simp [go_sem, e2]
    apply k4_; clear k4_
    refine Do.cond [2,3,4,7,8,9] rfl (fun g1 => ?_) (fun g1 => ?_) <;> simp [go_sem, e2] at g1 ⊢
    refine Do.skip ?_
    simp [go_sem]
    apply k3_; clear k3_
    refine Do.seqk fun _ k5_ => ?_
    refine Do.region [2,3,4,7,8,10] true ?_
    simp [go_sem, e2]
    repeat (refine And.intro (by first | omega | (intros; omega) | grind) ?_)
    refine DoL.call true 402 rfl rfl rfl rfl (by first | exact trivial | omega | (simp; done) | (simp; omega)) (hG) rfl (by first | exact .inl rfl | exact .inr rfl) rfl ?_
    simp [go_sem, e2]
    apply k5_; clear k5_
    refine Do.seqk fun _ k6_ => ?_
    refine Do.seqk fun _ k7_ => ?_
    refine Do.region [2,3,4,7,8,10,14] true ?_
    simp [go_sem, e2]
    repeat (refine And.intro (by first | omega | (intros; omega) | grind) ?_)
    refine DoL.call true 502 rfl rfl rfl rfl (by first | exact trivial | omega | (simp; done) | (simp; omega)) (hL) rfl (by first | exact .inl rfl | exact .inr rfl) rfl ?_
    simp [go_sem, e2]
    repeat (refine And.intro (by first | omega | (intros; omega) | grind) ?_)
    apply k7_; clear k7_
    refine Do.seqk fun _ k8_ => ?_
    refine Do.region [2,3,4,7,8,10,66] true ?_
    simp [go_sem, e2]
    repeat (refine And.intro (by first | omega | (intros; omega) | grind) ?_)
    refine DoL.callg true 616 rfl rfl rfl rfl rfl (by simp [go_sem] <;> omega) (fun _ => hC) rfl (by first | exact .inl rfl | exact .inr rfl) rfl ?_
    simp [go_sem, e2]
    apply k8_; clear k8_
    refine Do.cond [2,3,4,7,8,10] rfl (fun g2 => ?_) (fun g2 => ?_) <;> simp [go_sem, e2] at g2 ⊢
    · exact absurd g2 hno
    · refine Do.skip ?_
      simp [go_sem]
      apply k6_; clear k6_
      refine Do.seqk fun _ k9_ => ?_
      refine Do.region [2,3,4,7,8,18] true ?_
      simp [go_sem, e2]
      repeat (refine And.intro (by first | omega | (intros; omega) | grind) ?_)
      refine DoL.call true 803 rfl rfl rfl rfl (by first | exact trivial | omega | (simp; done) | (simp; omega)) (hS) rfl (by first | exact .inl rfl | exact .inr rfl) rfl ?_
      simp [go_sem, e2]
      apply k9_; clear k9_
      refine Do.seqk fun _ k10_ => ?_
      refine Do.seqk fun _ k11_ => ?_
      refine Do.region [2,3,4,7,8,18,73] true ?_
      simp [go_sem, e2]
      repeat (refine And.intro (by first | omega | (intros; omega) | grind) ?_)
      apply k11_; clear k11_
      refine Do.cond [2,3,4,7,8,18] rfl (fun g3 => ?_) (fun g3 => ?_) <;> simp [go_sem, e2] at g3 ⊢
      refine Do.draw [3,4,7,8,18] true (by kernel_rfl) ?_
      simp [go_sem, e2]
      repeat (refine And.intro (by first | omega | (intros; omega) | kernel_rfl | grind) ?_)
      refine DoLD.call true 1006 rfl rfl rfl rfl (by first | exact trivial | omega | (simp; done) | (simp; omega)) (hN) rfl (by first | exact .inl rfl | exact .inr rfl) rfl ?_
      simp [go_sem, e2]
      repeat (refine And.intro (by first | omega | (intros; omega) | kernel_rfl | grind) ?_)
      refine DoLD.call true 1009 rfl rfl rfl rfl (by first | exact trivial | omega | (simp; done) | (simp; omega)) (hS2) rfl (by first | exact .inl rfl | exact .inr rfl) rfl ?_
      simp [go_sem, hsum2]
      try (refine And.intro (by kernel_rfl) ?_)
      apply k10_; clear k10_
      refine Do.seqk fun _ k12_ => ?_
      refine Do.seqk fun _ k13_ => ?_
      refine Do.region [3,4,7,8,18,91] true ?_
      simp [go_sem, hsum2]
      repeat (refine And.intro (by first | omega | (intros; omega) | grind) ?_)
      apply k13_; clear k13_
      refine Do.cond [3,4,7,8,18] rfl (fun g4 => ?_) (fun g4 => ?_) <;> simp [go_sem, hsum2] at g4 ⊢
      refine Do.skip ?_
      simp [go_sem]
      apply k12_; clear k12_
      refine Do.seqk fun _ k14_ => ?_
      refine Do.region [4,5,6] true ?_
      simp [go_sem, hsum2]
      repeat (refine And.intro (by first | omega | (intros; omega) | grind) ?_)
      apply k14_; clear k14_
      refine Do.ret ?_
      simp [endQ, rets, ret1, go_sem, hsum2]
      repeat (refine And.intro (by first | omega | (intros; omega) | grind) ?_)
      exact TLe.refl _
  · have ht : 0 < tz c := Nat.pos_of_ne_zero fun h => hodd (hpar.2 h)
    have e4 : oddN c = c + 1 := by unfold oddN; rw [if_neg hodd]
    rw [e4]
    generalize mkP n (c + 1) u = y at *
    generalize c / 2 ^ tz c = V at *
    generalize (if V < 2 ^ p.toNat - 1 then (-1 : Int) else if 2 ^ p.toNat - 1 < V then 1 else 0) = cm at *
    generalize 2 ^ p.toNat - 1 = T at *
    generalize gOfE f - p + 1 = E at *
    generalize 1 - gOfE f = L at *
    generalize L - (p - 1) = L2 at *
    generalize gOfE f = g at *
    have hno : ¬ (u + (tz c : Int) = E ∧ cm = 0) := fun h => hnt2 ⟨h.1, hcz.1 h.2⟩
    have hgt : u < u + (tz c : Int) := by omega
    have hdiff : u + (tz c : Int) - u = tz c := by omega
    have hmax : max 0 (tz c : Int) = tz c := by omega
    have hif : (if 0 < tz c then (tz c : Int) else 0) = tz c := by split <;> omega
    refine Does.of (nt := 109) Tryd.func24 rfl rfl rfl (by simp) ?_
    simp only [argTm, PV.ext, Ce.ext]
    refine Do.seqk fun _ k1_ => ?_
    refine Do.region [2,3,4] true ?_
    simp [go_sem]
    apply k1_; clear k1_
    refine Do.seqk fun _ k2_ => ?_
    refine Do.region [2,3,4,7,8,9] true ?_
    simp [go_sem]
    repeat (refine And.intro (by first | omega | (intros; omega) | grind) ?_)
    refine DoL.call true 103 rfl rfl rfl rfl (by first | exact trivial | omega | (simp; done) | (simp; omega)) (hR) rfl (by first | exact .inl rfl | exact .inr rfl) rfl ?_
    simp [go_sem]
    repeat (refine And.intro (by first | omega | (intros; omega) | grind) ?_)
    apply k2_; clear k2_
    refine Do.seqk fun _ k3_ => ?_
    refine Do.seqk fun _ k4_ => ?_
    refine Do.region [2,3,4,7,8,9,31] true ?_
    simp [go_sem, e2]
    apply k4_; clear k4_
    refine Do.cond [2,3,4,7,8,9] rfl (fun g1 => ?_) (fun g1 => ?_) <;> simp [go_sem, e2] at g1 ⊢
    refine Do.skip ?_
    simp [go_sem]
    apply k3_; clear k3_
    refine Do.seqk fun _ k5_ => ?_
    refine Do.region [2,3,4,7,8,10] true ?_
    simp [go_sem, e2]
    repeat (refine And.intro (by first | omega | (intros; omega) | grind) ?_)
    refine DoL.call true 402 rfl rfl rfl rfl (by first | exact trivial | omega | (simp; done) | (simp; omega)) (hG) rfl (by first | exact .inl rfl | exact .inr rfl) rfl ?_
    simp [go_sem, e2]
    apply k5_; clear k5_
    refine Do.seqk fun _ k6_ => ?_
    refine Do.seqk fun _ k7_ => ?_
    refine Do.region [2,3,4,7,8,10,14] true ?_
    simp [go_sem, e2]
    repeat (refine And.intro (by first | omega | (intros; omega) | grind) ?_)
    refine DoL.call true 502 rfl rfl rfl rfl (by first | exact trivial | omega | (simp; done) | (simp; omega)) (hL) rfl (by first | exact .inl rfl | exact .inr rfl) rfl ?_
    simp [go_sem, e2]
    repeat (refine And.intro (by first | omega | (intros; omega) | grind) ?_)
    apply k7_; clear k7_
    refine Do.seqk fun _ k8_ => ?_
    refine Do.region [2,3,4,7,8,10,66] true ?_
    simp [go_sem, e2]
    repeat (refine And.intro (by first | omega | (intros; omega) | grind) ?_)
    refine DoL.callg true 616 rfl rfl rfl rfl rfl (by simp [go_sem] <;> omega) (fun _ => hC) rfl (by first | exact .inl rfl | exact .inr rfl) rfl ?_
    simp [go_sem, e2]
    apply k8_; clear k8_
    refine Do.cond [2,3,4,7,8,10] rfl (fun g2 => ?_) (fun g2 => ?_) <;> simp [go_sem, e2] at g2 ⊢
    · exact absurd g2 hno
    · refine Do.skip ?_
      simp [go_sem]
      apply k6_; clear k6_
      refine Do.seqk fun _ k9_ => ?_
      refine Do.region [2,3,4,7,8,18] true ?_
      simp [go_sem, e2]
      repeat (refine And.intro (by first | omega | (intros; omega) | grind) ?_)
      refine DoL.call true 803 rfl rfl rfl rfl (by first | exact trivial | omega | (simp; done) | (simp; omega)) (hS) rfl (by first | exact .inl rfl | exact .inr rfl) rfl ?_
      simp [go_sem, e2]
      apply k9_; clear k9_
      refine Do.seqk fun _ k10_ => ?_
      refine Do.seqk fun _ k11_ => ?_
      refine Do.region [2,3,4,7,8,18,73] true ?_
      simp [go_sem, e2]
      repeat (refine And.intro (by first | omega | (intros; omega) | grind) ?_)
      apply k11_; clear k11_
      refine Do.cond [2,3,4,7,8,18] rfl (fun g3 => ?_) (fun g3 => ?_) <;> simp [go_sem, e2] at g3 ⊢
      refine Do.draw [3,4,7,8,18] true (by kernel_rfl) ?_
      simp [go_sem, hsum]
      repeat (refine And.intro (by first | omega | (intros; omega) | kernel_rfl | grind) ?_)
      refine DoLD.call true 1006 rfl rfl rfl rfl (by first | exact trivial | omega | (simp; done) | (simp; omega)) (hN) rfl (by first | exact .inl rfl | exact .inr rfl) rfl ?_
      simp [go_sem, hsum]
      repeat (refine And.intro (by first | omega | (intros; omega) | kernel_rfl | grind) ?_)
      refine DoLD.call true 1009 rfl rfl rfl rfl (by first | exact trivial | omega | (simp; done) | (simp; omega)) (hS2) rfl (by first | exact .inl rfl | exact .inr rfl) rfl ?_
      simp [go_sem, hsum]
      try (refine And.intro (by kernel_rfl) ?_)
      apply k10_; clear k10_
      refine Do.seqk fun _ k12_ => ?_
      refine Do.seqk fun _ k13_ => ?_
      refine Do.region [3,4,7,8,18,91] true ?_
      simp [go_sem, hsum]
      repeat (refine And.intro (by first | omega | (intros; omega) | grind) ?_)
      apply k13_; clear k13_
      refine Do.cond [3,4,7,8,18] rfl (fun g4 => ?_) (fun g4 => ?_) <;> simp [go_sem, hsum] at g4 ⊢
      · refine Do.draw [4,7,8] true (by kernel_rfl) ?_
        simp [go_sem, hdiff, hmax, hif]
        repeat (refine And.intro (by first | omega | (intros; omega) | kernel_rfl | grind) ?_)
        refine DoLD.call true 1211 rfl rfl rfl rfl (by first | exact trivial | omega | (simp; done) | (simp; omega)) (hSh) rfl (by first | exact .inl rfl | exact .inr rfl) rfl ?_
        simp [go_sem, hdiff, hmax, hif]
        refine DoLD.call true 1213 rfl rfl rfl rfl (by first | exact trivial | omega | (simp; done) | (simp; omega)) (hA) rfl (by first | exact .inl rfl | exact .inr rfl) rfl ?_
        simp [go_sem, hdiff, hmax, hif]
        refine DoLD.call true 1215 rfl rfl rfl rfl (by first | exact trivial | omega | (simp; done) | (simp; omega)) (hM) rfl (by first | exact .inl rfl | exact .inr rfl) rfl ?_
        simp [go_sem, hdiff, hmax, hif]
        repeat (refine And.intro (by first | omega | (intros; omega) | kernel_rfl | grind) ?_)
        try (refine And.intro (by kernel_rfl) ?_)
        apply k12_; clear k12_
        refine Do.seqk fun _ k14_ => ?_
        refine Do.region [4,5,6] true ?_
        simp [go_sem, hdiff, hmax, hif]
        repeat (refine And.intro (by first | omega | (intros; omega) | grind) ?_)
        apply k14_; clear k14_
        refine Do.ret ?_
        simp [endQ, rets, ret1, go_sem, hdiff, hmax, hif]
        repeat (refine And.intro (by first | omega | (intros; omega) | grind) ?_)
        exact TLe.refl _
      · omega
end Go.Proofs.YtokgalpflooegaaDoor
/- Rounded to odd, the program. No condition. -/
namespace Go.Proofs.YtokgalpflooegaaDoor
set_option linter.unusedVariables false
set_option linter.unusedSimpArgs false
set_option maxHeartbeats 8000000
set_option maxRecDepth 10000
theorem Odd_does {f p : Int} {n : Bool} {m d : List Nat} (hm : Sh m) (wm : Ws m) (hd : Sh d) (wd : Ws d) {K : Nat} (hK : 300 + bl (val d) ≤ K) : Does Tryd.prog Gv 24 [Fm f p, Qr n m d] (Res (oddD f p n m d K)) := by
  have hR := @RoundD_does f p 2 n m d hm wm hd wd K hK
  unfold roundD at hR
  unfold oddD
  by_cases h : checkQ 2 m d = 0
  · rw [if_neg (by omega)] at hR ⊢
    cases hf : fmOk f p with
    | false =>
      rw [hf, if_pos rfl] at hR
      rw [if_pos rfl]
      exact Odd_same hR (.inl (by simp))
    | true =>
      rw [hf, if_neg (by simp)] at hR
      rw [if_neg (by simp)]
      by_cases h0 : val m = 0
      · rw [if_pos h0] at hR ⊢
        exact Odd_same hR (.inr rfl)
      · rw [if_neg h0] at hR ⊢
        obtain ⟨c1, c2, c3, c4, c5⟩ := checkQ_zero h
        obtain ⟨b1, b2, b3, b4⟩ := fmOk_spec hf
        obtain ⟨b5, b6⟩ := gOfE_le b1 b2
        have hen := @quo_enough (val m) (val d) K p (by omega) (by omega) (by omega) (by omega)
        unfold ratP at hR
        obtain ⟨r1, r2⟩ := @round_two f p hf n (quoM (val m) (val d) K) (-(K : Int)) (quoS (val m) (val d) K) (by omega)
        obtain ⟨f1, f2, f3, f4, f5, f6, f7⟩ := @cut_facts f p hf (quoM (val m) (val d) K) (-(K : Int)) (quoS (val m) (val d) K) (by omega)
        have hstep : stepP f p (-(K : Int) + bl (quoM (val m) (val d) K) - 1) = if -(K : Int) + bl (quoM (val m) (val d) K) - 1 < 1 - gOfE f then 1 - gOfE f - (p - 1) else -(K : Int) + bl (quoM (val m) (val d) K) - 1 - p + 1 := rfl
        unfold oddP
        simp only []
        generalize quoS (val m) (val d) K = st at *
        generalize quoM (val m) (val d) K = M at *
        by_cases hE : gOfE f < -(K : Int) + bl M - 1
        · rw [r1 hE] at hR
          rw [if_pos hE]
          exact Odd_top hf (show (5 : Int) ≠ 0 by decide) hR
        · rw [r2 (by omega)] at hR
          rw [if_neg hE]
          generalize hEE : -(K : Int) + (bl M : Int) - 1 = E at *
          generalize hu : stepP f p E = u at *
          generalize cutP M (u - -(K : Int)) st = c at *
          by_cases hx : c.2 = 0
          · rw [if_pos hx] at hR ⊢
            exact Odd_same hR (.inr rfl)
          · rw [if_neg hx] at hR ⊢
            have hfl : (if E < 1 - gOfE f then (3 : Int) else 1) ≠ 0 := by split <;> decide
            by_cases ht : c.1 = 2 ^ p.toNat - 1 ∧ u = gOfE f - p + 1
            · rw [if_pos ht]
              rw [ht.1, ht.2, mk_full (by omega)] at hR
              exact Odd_top hf hfl hR
            · rw [if_neg ht]
              by_cases hz : c.1 = 0
              · have h5 := f5 hz
                rw [if_pos h5] at hstep
                rw [hz] at hR ⊢
                have e0 : mkP n 0 u = ⟨0, n, 0, 0⟩ := rfl
                rw [e0] at hR
                have := Odd_zero hf hfl hR
                rw [hstep]
                exact this
              · have h4 := f4 hz
                refine Odd_fin hf hfl hz f3 (by omega) ?_ (by rw [h4, hu]) ht hR
                split at hstep <;> omega
  · rw [if_pos h] at hR ⊢
    exact Odd_same hR (.inl h)
end Go.Proofs.YtokgalpflooegaaDoor
/- What is rounded without flags; what is beyond the greatest float; plain. No condition. -/
namespace Go.Proofs.YtokgalpflooegaaDoor
set_option linter.unusedVariables false
set_option linter.unusedSimpArgs false
set_option maxHeartbeats 4000000
set_option maxRecDepth 10000
end Go.Proofs.YtokgalpflooegaaDoor
/- Rounded to odd, by the reference. No condition. -/
namespace Go.Proofs.YtokgalpflooegaaDoor
set_option linter.unusedVariables false
set_option linter.unusedSimpArgs false
set_option maxHeartbeats 8000000
set_option maxRecDepth 10000
section
variable {P : Program} {G : Gl} {nt : Nat} {st : St} {ops l : List Oper} {Q : St → Prop}
end
variable {G : Gl}
end Go.Proofs.YtokgalpflooegaaDoor
/- Rounded to odd, by the reference: the whole. No condition. -/
namespace Go.Proofs.YtokgalpflooegaaDoor
set_option linter.unusedVariables false
set_option linter.unusedSimpArgs false
set_option maxHeartbeats 8000000
set_option maxRecDepth 10000
variable {G : Gl}
end Go.Proofs.YtokgalpflooegaaDoor
/- Rounded to odd by the reference, joined. No condition. -/
namespace Go.Proofs.YtokgalpflooegaaDoor
set_option linter.unusedVariables false
set_option linter.unusedSimpArgs false
set_option maxHeartbeats 8000000
set_option maxRecDepth 10000
variable {G : Gl}
end Go.Proofs.YtokgalpflooegaaDoor
/- The law ConvertOdds. No condition. -/
namespace Go.Proofs.YtokgalpflooegaaDoor
set_option linter.unusedVariables false
set_option linter.unusedSimpArgs false
set_option maxHeartbeats 8000000
set_option maxRecDepth 10000
/-- The rational number as one element of a list. -/
abbrev Qs (n : Bool) (m d : List Nat) : PV := .s false [[.b n, .w false m, .w false d]]
theorem BriefQ {n : Bool} {m d : List Nat} : Does Tryd.prog Gv 19 [Qs n m d] (.v (.c (.b (decide (m.length ≤ 40) && decide (d.length ≤ 40))))) := by
  refine Does.of (nt := 27) Tryd.func19 rfl rfl rfl (by simp) ?_
  simp only [argTm, PV.ext, Ce.ext]
  refine Do.seqk fun _ k1_ => ?_
  refine Do.region [0] true ?_
  simp [go_sem]
  apply k1_; clear k1_
  refine Do.seqk fun _ k2_ => ?_
  refine Do.seqk fun _ k3_ => ?_
  refine Do.region [0,3] true ?_
  simp [go_sem]
  apply k3_; clear k3_
  refine Do.block ?_
  refine Do.loopF [0,3] (fun (i : Nat) => [(3, .int .i64 i)]) (fun (i : Nat) => []) (fun (i : Nat) => i ≤ 1 ∧ (0 < i → m.length ≤ 40 ∧ d.length ≤ 40)) (fun (i : Nat) => 1 - i) (0) (fun _ => by first | (simp [go_sem, mixS]; done) | (simp [go_sem, mixS]; rfl)) (St.le_of (by first | rfl | simp [keep]) (by first | rfl | simp [keep])) (⟨by omega, by omega⟩) ?_
  rintro i ⟨hi, hs⟩
  refine Do.seqk fun _ k4_ => ?_
  refine Do.seqk fun _ k5_ => ?_
  refine Do.region [0,3,7] true ?_
  simp [go_sem]
  repeat (refine And.intro (by first | omega | (intros; omega) | grind) ?_)
  apply k5_; clear k5_
  refine Do.cond [0,3] rfl (fun g1 => ?_) (fun g1 => ?_) <;> simp [go_sem] at g1 ⊢
  · obtain rfl : i = 0 := by omega
    refine Do.skip ?_
    simp [go_sem]
    apply k4_; clear k4_
    refine Do.seqk fun _ k6_ => ?_
    refine Do.block ?_
    refine Do.seqk fun _ k7_ => ?_
    refine Do.region [0,3,26] true ?_
    simp [go_sem, List.length_cons, List.length_nil]
    repeat (refine And.intro (by first | omega | (intros; omega) | grind) ?_)
    apply k7_; clear k7_
    refine Do.cond [0,3] rfl (fun g2 => ?_) (fun g2 => ?_) <;> simp [go_sem, List.length_cons, List.length_nil] at g2 ⊢
    · refine Do.seqk fun _ k8_ => ?_
      refine Do.region [2] true ?_
      simp [go_sem, List.length_cons, List.length_nil]
      apply k8_; clear k8_
      refine Do.ret ?_
      simp [endQ, rets, ret1, go_sem, List.length_cons, List.length_nil]
      repeat (refine And.intro (by first | omega | (intros; omega) | grind) ?_)
      exact ret_b (by simp; omega)
    · refine Do.skip ?_
      simp [go_sem]
      apply k6_; clear k6_
      refine Do.region [0,3] true ?_
      simp [go_sem, List.length_cons, List.length_nil]
      repeat (refine And.intro (by first | omega | (intros; omega) | grind) ?_)
      refine ⟨1, St.le_of (by first | rfl | simp [keep]) (by first | rfl | simp [keep]), ⟨by omega, by omega⟩, by simp⟩
  · obtain rfl : i = 1 := by omega
    obtain ⟨h1, h2⟩ := hs (by omega)
    refine Do.exit ?_
    simp [go_sem]
    apply k2_; clear k2_
    refine Do.seqk fun _ k9_ => ?_
    refine Do.region [2] true ?_
    simp [go_sem]
    apply k9_; clear k9_
    refine Do.ret ?_
    simp [endQ, rets, ret1, go_sem]
    repeat (refine And.intro (by first | omega | (intros; omega) | grind) ?_)
    exact ret_b (by simp [h1, h2])
theorem RLargeQ {n : Bool} {m d : List Nat} (hm : Sh m) (hd : Sh d) : Does Tryd.prog Gv 50 [Qw n m d] (.v (.c (.b (decide (4096 < (m.length : Int)) || decide (4096 < (d.length : Int)))))) := by
  have h1 := @NLarge_does Gv m hm
  have h2 := @NLarge_does Gv d hd
  generalize decide (4096 < (m.length : Int)) = b1 at *
  generalize decide (4096 < (d.length : Int)) = b2 at *
  cases b1 with
  | true =>
    refine Does.of (nt := 12) Tryd.func50 rfl rfl rfl (by simp) ?_
    simp only [argTm, PV.ext, Ce.ext]
    refine Do.seqk fun _ k1_ => ?_
    refine Do.region [1] true ?_
    simp [go_sem]
    apply k1_; clear k1_
    refine Do.seqk fun _ k2_ => ?_
    refine Do.region [2] true ?_
    simp [go_sem]
    repeat (refine And.intro (by first | omega | (intros; omega) | grind) ?_)
    refine DoL.call true 104 rfl rfl rfl rfl (by first | exact trivial | omega | (simp; done) | (simp; omega)) (h1) rfl (by first | exact .inl rfl | exact .inr rfl) rfl ?_
    simp [go_sem]
    repeat (refine And.intro (by first | omega | (intros; omega) | grind) ?_)
    refine DoL.gOff true 108 rfl rfl (.v (.c (.b false))) rfl ?_
    simp [go_sem]
    apply k2_; clear k2_
    refine Do.ret ?_
    simp [endQ, rets, ret1, go_sem]
    repeat (refine And.intro (by first | omega | (intros; omega) | grind) ?_)
    exact TLe.refl _
  | false =>
    refine Does.of (nt := 12) Tryd.func50 rfl rfl rfl (by simp) ?_
    simp only [argTm, PV.ext, Ce.ext]
    refine Do.seqk fun _ k1_ => ?_
    refine Do.region [1] true ?_
    simp [go_sem]
    apply k1_; clear k1_
    refine Do.seqk fun _ k2_ => ?_
    refine Do.region [2] true ?_
    simp [go_sem]
    repeat (refine And.intro (by first | omega | (intros; omega) | grind) ?_)
    refine DoL.call true 104 rfl rfl rfl rfl (by first | exact trivial | omega | (simp; done) | (simp; omega)) (h1) rfl (by first | exact .inl rfl | exact .inr rfl) rfl ?_
    simp [go_sem]
    repeat (refine And.intro (by first | omega | (intros; omega) | grind) ?_)
    refine DoL.callg true 108 rfl rfl rfl rfl rfl (by simp [go_sem] <;> omega) (fun _ => h2) rfl (by first | exact .inl rfl | exact .inr rfl) rfl ?_
    simp [go_sem]
    apply k2_; clear k2_
    refine Do.ret ?_
    simp [endQ, rets, ret1, go_sem]
    repeat (refine And.intro (by first | omega | (intros; omega) | grind) ?_)
    exact TLe.refl _
theorem RArgsQ {r : Int} {n : Bool} {m d : List Nat} (hm : Sh m) (wm : Ws m) (hd : Sh d) (wd : Ws d) (hd2 : d.length ≤ 1073741824) : Does Tryd.prog Gv 20 [.c (.i .i64 r), Qs n m d] (.int .i64 (checkQ r m d)) := by
  have hz : checkQ r m d = checkQ r m d := rfl
  conv at hz => rhs; unfold checkQ
  generalize checkQ r m d = z at *
  have hL := @RLargeQ n m d hm hd
  have hZ := @IsZero_does Gv d hd2 wd
  have hR := @Known_does Gv r
  refine Does.of (nt := 33) Tryd.func20 rfl rfl rfl (by simp) ?_
  simp only [argTm, PV.ext, Ce.ext]
  refine Do.seqk fun _ k1_ => ?_
  refine Do.region [0,1] true ?_
  simp [go_sem]
  apply k1_; clear k1_
  refine Do.seqk fun _ k2_ => ?_
  refine Do.seqk fun _ k3_ => ?_
  refine Do.region [0,1,5] true ?_
  simp [go_sem]
  apply k3_; clear k3_
  refine Do.block ?_
  refine Do.loopF [0,1,5] (fun (i : Nat) => [(5, .int .i64 i)]) (fun (i : Nat) => []) (fun (i : Nat) => i ≤ 1 ∧ (0 < i → ¬ (4096 < m.length ∨ 4096 < d.length))) (fun (i : Nat) => 1 - i) (0) (fun _ => by first | (simp [go_sem, mixS]; done) | (simp [go_sem, mixS]; rfl)) (St.le_of (by first | rfl | simp [keep]) (by first | rfl | simp [keep])) (⟨by omega, by omega⟩) ?_
  rintro i ⟨hi, hs⟩
  refine Do.seqk fun _ k4_ => ?_
  refine Do.seqk fun _ k5_ => ?_
  refine Do.region [0,1,5,10] true ?_
  simp [go_sem]
  repeat (refine And.intro (by first | omega | (intros; omega) | grind) ?_)
  apply k5_; clear k5_
  refine Do.cond [0,1,5] rfl (fun g1 => ?_) (fun g1 => ?_) <;> simp [go_sem] at g1 ⊢
  · obtain rfl : i = 0 := by omega
    refine Do.skip ?_
    simp [go_sem]
    apply k4_; clear k4_
    refine Do.seqk fun _ k6_ => ?_
    refine Do.block ?_
    refine Do.seqk fun _ k7_ => ?_
    refine Do.region [0,1,5,17] true ?_
    simp [go_sem, List.length_cons, List.length_nil]
    repeat (refine And.intro (by first | omega | (intros; omega) | grind) ?_)
    refine DoL.call true 405 rfl rfl rfl rfl (by first | exact trivial | omega | (simp; done) | (simp; omega)) (hL) rfl (by first | exact .inl rfl | exact .inr rfl) rfl ?_
    simp [go_sem, List.length_cons, List.length_nil]
    apply k7_; clear k7_
    refine Do.cond [0,1,5] rfl (fun g2 => ?_) (fun g2 => ?_) <;> simp [go_sem, List.length_cons, List.length_nil] at g2 ⊢
    · refine Do.seqk fun _ k8_ => ?_
      refine Do.region [4] true ?_
      simp [go_sem, List.length_cons, List.length_nil]
      apply k8_; clear k8_
      refine Do.ret ?_
      simp [endQ, rets, ret1, go_sem, List.length_cons, List.length_nil]
      repeat (refine And.intro (by first | omega | (intros; omega) | grind) ?_)
      rw [if_pos (by omega)] at hz
      subst hz
      exact TLe.refl _
    · refine Do.skip ?_
      simp [go_sem]
      apply k6_; clear k6_
      refine Do.region [0,1,5] true ?_
      simp [go_sem, List.length_cons, List.length_nil]
      repeat (refine And.intro (by first | omega | (intros; omega) | grind) ?_)
      refine ⟨1, St.le_of (by first | rfl | simp [keep]) (by first | rfl | simp [keep]), ⟨by omega, by omega⟩, by simp⟩
  · obtain rfl : i = 1 := by omega
    have hs := hs (by omega)
    rw [if_neg hs] at hz
    refine Do.exit ?_
    simp [go_sem]
    apply k2_; clear k2_
    refine Do.seqk fun _ k9_ => ?_
    refine Do.seqk fun _ k10_ => ?_
    refine Do.region [0,1,6] true ?_
    simp [go_sem]
    apply k10_; clear k10_
    refine Do.block ?_
    refine Do.loopF [0,1,6] (fun (j : Nat) => [(6, .int .i64 j)]) (fun (j : Nat) => []) (fun (j : Nat) => j ≤ 1 ∧ (0 < j → val d ≠ 0)) (fun (j : Nat) => 1 - j) (0) (fun _ => by first | (simp [go_sem, mixS]; done) | (simp [go_sem, mixS]; rfl)) (St.le_of (by first | rfl | simp [keep]) (by first | rfl | simp [keep])) (⟨by omega, by omega⟩) ?_
    rintro j ⟨hj, hs2⟩
    refine Do.seqk fun _ k11_ => ?_
    refine Do.seqk fun _ k12_ => ?_
    refine Do.region [0,1,6,21] true ?_
    simp [go_sem]
    repeat (refine And.intro (by first | omega | (intros; omega) | grind) ?_)
    apply k12_; clear k12_
    refine Do.cond [0,1,6] rfl (fun g3 => ?_) (fun g3 => ?_) <;> simp [go_sem] at g3 ⊢
    · obtain rfl : j = 0 := by omega
      refine Do.skip ?_
      simp [go_sem]
      apply k11_; clear k11_
      refine Do.seqk fun _ k13_ => ?_
      refine Do.block ?_
      refine Do.seqk fun _ k14_ => ?_
      refine Do.region [0,1,6,29] true ?_
      simp [go_sem, List.length_cons, List.length_nil]
      repeat (refine And.intro (by first | omega | (intros; omega) | grind) ?_)
      refine DoL.call true 906 rfl rfl rfl rfl (by first | exact trivial | omega | (simp; done) | (simp; omega)) (hZ) rfl (by first | exact .inl rfl | exact .inr rfl) rfl ?_
      simp [go_sem, List.length_cons, List.length_nil]
      apply k14_; clear k14_
      refine Do.cond [0,1,6] rfl (fun g4 => ?_) (fun g4 => ?_) <;> simp [go_sem, List.length_cons, List.length_nil] at g4 ⊢
      · refine Do.seqk fun _ k15_ => ?_
        refine Do.region [4] true ?_
        simp [go_sem, List.length_cons, List.length_nil]
        apply k15_; clear k15_
        refine Do.ret ?_
        simp [endQ, rets, ret1, go_sem, List.length_cons, List.length_nil]
        repeat (refine And.intro (by first | omega | (intros; omega) | grind) ?_)
        rw [if_pos g4] at hz
        subst hz
        exact TLe.refl _
      · refine Do.skip ?_
        simp [go_sem]
        apply k13_; clear k13_
        refine Do.region [0,1,6] true ?_
        simp [go_sem, List.length_cons, List.length_nil]
        repeat (refine And.intro (by first | omega | (intros; omega) | grind) ?_)
        refine ⟨1, St.le_of (by first | rfl | simp [keep]) (by first | rfl | simp [keep]), ⟨by omega, fun _ => g4⟩, by simp⟩
    · obtain rfl : j = 1 := by omega
      rw [if_neg (hs2 (by omega))] at hz
      refine Do.exit ?_
      simp [go_sem]
      apply k9_; clear k9_
      refine Do.seqk fun _ k16_ => ?_
      refine Do.seqk fun _ k17_ => ?_
      refine Do.region [32] true ?_
      simp [go_sem]
      refine DoL.call true 1102 rfl rfl rfl rfl (by first | exact trivial | omega | (simp; done) | (simp; omega)) (hR) rfl (by first | exact .inl rfl | exact .inr rfl) rfl ?_
      simp [go_sem]
      repeat (refine And.intro (by first | omega | (intros; omega) | grind) ?_)
      apply k17_; clear k17_
      refine Do.cond [] rfl (fun g5 => ?_) (fun g5 => ?_) <;> simp [go_sem] at g5 ⊢
      · refine Do.seqk fun _ k18_ => ?_
        refine Do.region [4] true ?_
        simp [go_sem]
        apply k18_; clear k18_
        refine Do.ret ?_
        simp [endQ, rets, ret1, go_sem]
        repeat (refine And.intro (by first | omega | (intros; omega) | grind) ?_)
        rw [if_neg (by omega)] at hz
        subst hz
        exact TLe.refl _
      · refine Do.skip ?_
        simp [go_sem]
        apply k16_; clear k16_
        refine Do.seqk fun _ k19_ => ?_
        refine Do.region [4] true ?_
        simp [go_sem]
        apply k19_; clear k19_
        refine Do.ret ?_
        simp [endQ, rets, ret1, go_sem]
        repeat (refine And.intro (by first | omega | (intros; omega) | grind) ?_)
        rw [if_pos (by omega)] at hz
        subst hz
        exact TLe.refl _
theorem oddP_fine {f p : Int} (hf : fmOk f p = true) {n : Bool} {M : Nat} {e : Int} {st : Bool} (hM : p + 2 ≤ bl M) : Fine (oddP f p n M e st).1 ∧ rcanon (oddP f p n M e st).1 = (oddP f p n M e st).1 := by
  obtain ⟨b1, b2, b3, b4⟩ := fmOk_spec hf
  obtain ⟨b5, b6⟩ := gOfE_le b1 b2
  obtain ⟨f1, f2, f3, f4, f5, f6, f7⟩ := @cut_facts f p hf M e st hM
  have hstep : stepP f p (e + bl M - 1) = if e + bl M - 1 < 1 - gOfE f then 1 - gOfE f - (p - 1) else e + bl M - 1 - p + 1 := rfl
  have hfull : (⟨1, n, gOfE f - p + 1, 2 ^ p.toNat - 1⟩ : Flt) = mkP n (2 ^ p.toNat - 1) (gOfE f - p + 1) := (mk_full (by omega)).symm
  have hones := bl_ones2 p.toNat
  have main : ∃ q u, (oddP f p n M e st).1 = mkP n q u ∧ -1048576 ≤ u ∧ u + bl q ≤ 1048576 ∧ bl q ≤ 100000 := by
    unfold oddP
    simp only []
    generalize stepP f p (e + bl M - 1) = u at *
    generalize cutP M (u - e) st = c at *
    split
    · exact ⟨_, _, hfull, by omega, by omega, by omega⟩
    · rename_i hE
      have hu : u ≤ gOfE f - p + 1 := by split at hstep <;> omega
      split
      · exact ⟨_, _, rfl, by omega, by omega, by omega⟩
      · split
        · exact ⟨_, _, hfull, by omega, by omega, by omega⟩
        · refine ⟨_, _, rfl, by omega, ?_⟩
          by_cases h0 : c.1 = 0
          · rw [h0]
            have e0 : bl (oddN 0) = 1 := by decide
            rw [e0]; omega
          · rw [oddN_bl h0]; omega
  obtain ⟨q, u, e1, h1, h2, h3⟩ := main
  rw [e1]
  exact ⟨mkP_fine h1 h2 h3, mkP_fix⟩
end Go.Proofs.YtokgalpflooegaaDoor
