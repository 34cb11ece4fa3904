/- Rounding of rational numbers whose denominator is 1; the program awake. No condition. The law ConvertFormats. No condition. Integers, natural and rational numbers among the arguments of a law. No condition. The float with a rational value, in general. No condition. Division of two words by one. No condition. Division of two words by one: the walk. No condition. Functions that write words into a part of a row of their caller's. No condition. A part of a row of words of the call's own, given to a call that writes it. No condition. -/
import Derived.Test.YtokgalpflooegaaDoorMh
import Derived.Test.YtokgalpflooegaaDoorMg
import Derived.KernelRfl
/- Rounding of rational numbers whose denominator is 1; the program awake. No condition. -/
namespace Go.Proofs.YtokgalpflooegaaDoor
set_option linter.unusedVariables false
set_option linter.unusedSimpArgs false
set_option maxHeartbeats 4000000
set_option maxRecDepth 10000
/-- A rational number as it is laid. -/
abbrev Qr (n : Bool) (m d : List Nat) : PV := .a [.b n, .w false m, .w false d]
/-- The error of a rational number and a rounding. -/
def checkQ (r : Int) (m d : List Nat) : Int :=
  if 4096 < m.length ∨ 4096 < d.length then 2 else if val d = 0 then 5 else if 0 ≤ r ∧ r ≤ 4 then 0 else 1
theorem check_does20 {r : Int} {n : Bool} {m d : List Nat} (hm : Sh m) (hd : Sh d) : Does Tryd.prog Gv 58 [.c (.i .i64 r), .s false [[.b n, .w false m, .w false d]]] (.v (.c (.i .i64 (checkQ r m d)))) := by
  have hz : checkQ r m d = checkQ r m d := rfl
  conv at hz => rhs; unfold checkQ
  generalize checkQ r m d = z at *
  have hZ := @Zero_does Gv d hd
  have hR := @Right_does Gv r
  refine Does.of (nt := 40) Tryd.func58 rfl rfl rfl (by simp) ?_
  simp only [argTm, PV.ext, Ce.ext]
  refine Do.seqk fun _ k1_ => ?_
  refine Do.region [0,1] true ?_
  simp [go_sem]
  apply k1_; clear k1_
  refine Do.seqk fun _ k2_ => ?_
  refine Do.seqk fun _ k3_ => ?_
  refine Do.region [0,1,9,10,11] true ?_
  simp [go_sem]
  repeat (refine And.intro (by first | omega | (intros; omega) | grind) ?_)
  apply k3_; clear k3_
  refine Do.block ?_
  refine Do.loopF [0,1,9,10,11] (fun (i : Nat) => [(11, .int .i64 i)]) (fun (i : Nat) => []) (fun (i : Nat) => i ≤ 1 ∧ (0 < i → ¬ (4096 < m.length ∨ 4096 < d.length))) (fun (i : Nat) => 1 - i) (0) (fun _ => by first | (simp [go_sem, mixS]; done) | (simp [go_sem, mixS]; rfl)) (St.le_of (by first | rfl | simp [keep]) (by first | rfl | simp [keep])) (⟨by omega, by omega⟩) ?_
  rintro i ⟨hi, hs⟩
  refine Do.seqk fun _ k4_ => ?_
  refine Do.region [0,1,9,10,11,12] true ?_
  simp [go_sem]
  apply k4_; clear k4_
  refine Do.seqk fun _ k5_ => ?_
  refine Do.cond [0,1,9,10,11] rfl (fun g1 => ?_) (fun g1 => ?_) <;> simp [go_sem] at g1 ⊢
  · obtain rfl : i = 0 := by omega
    refine Do.skip ?_
    simp [go_sem]
    apply k5_; clear k5_
    refine Do.seqk fun _ k6_ => ?_
    refine Do.block ?_
    refine Do.seqk fun _ k7_ => ?_
    refine Do.region [0,1,6,9,10,11] true ?_
    simp [go_sem, List.length_cons, List.length_nil]
    repeat (refine And.intro (by first | omega | (intros; omega) | grind) ?_)
    apply k7_; clear k7_
    refine Do.seqk fun _ k8_ => ?_
    refine Do.region [0,1,9,10,11,25] true ?_
    simp [go_sem, List.length_cons, List.length_nil]
    repeat (refine And.intro (by first | omega | (intros; omega) | grind) ?_)
    apply k8_; clear k8_
    refine Do.cond [0,1,9,10,11] rfl (fun g2 => ?_) (fun g2 => ?_) <;> simp [go_sem, List.length_cons, List.length_nil] at g2 ⊢
    · refine Do.seqk fun _ k9_ => ?_
      refine Do.region [4] true ?_
      simp [go_sem, List.length_cons, List.length_nil]
      apply k9_; clear k9_
      refine Do.ret ?_
      simp [endQ, rets, ret1, go_sem, List.length_cons, List.length_nil]
      repeat (refine And.intro (by first | omega | (intros; omega) | grind) ?_)
      rw [if_pos (by omega)] at hz
      subst hz
      exact TLe.refl _
    · refine Do.skip ?_
      simp [go_sem]
      apply k6_; clear k6_
      refine Do.region [0,1,9,10,11] true ?_
      simp [go_sem, List.length_cons, List.length_nil]
      repeat (refine And.intro (by first | omega | (intros; omega) | grind) ?_)
      refine ⟨1, St.le_of (by first | rfl | simp [keep]) (by first | rfl | simp [keep]), ⟨by omega, by omega⟩, by simp⟩
  · obtain rfl : i = 1 := by omega
    have hs := hs (by omega)
    rw [if_neg hs] at hz
    refine Do.exit ?_
    simp [go_sem]
    apply k2_; clear k2_
    refine Do.seqk fun _ k10_ => ?_
    refine Do.seqk fun _ k11_ => ?_
    refine Do.region [0,27,28,29] true ?_
    simp [go_sem]
    repeat (refine And.intro (by first | omega | (intros; omega) | grind) ?_)
    apply k11_; clear k11_
    refine Do.block ?_
    refine Do.loopF [0,27,28,29] (fun (j : Nat) => [(29, .int .i64 j)]) (fun (j : Nat) => []) (fun (j : Nat) => j ≤ 1 ∧ (0 < j → val d ≠ 0)) (fun (j : Nat) => 1 - j) (0) (fun _ => by first | (simp [go_sem, mixS]; done) | (simp [go_sem, mixS]; rfl)) (St.le_of (by first | rfl | simp [keep]) (by first | rfl | simp [keep])) (⟨by omega, by omega⟩) ?_
    rintro j ⟨hj, hs2⟩
    refine Do.seqk fun _ k12_ => ?_
    refine Do.region [0,27,28,29,30] true ?_
    simp [go_sem]
    apply k12_; clear k12_
    refine Do.seqk fun _ k13_ => ?_
    refine Do.cond [0,27,28,29] rfl (fun g3 => ?_) (fun g3 => ?_) <;> simp [go_sem] at g3 ⊢
    · obtain rfl : j = 0 := by omega
      refine Do.skip ?_
      simp [go_sem]
      apply k13_; clear k13_
      refine Do.seqk fun _ k14_ => ?_
      refine Do.block ?_
      refine Do.seqk fun _ k15_ => ?_
      refine Do.region [0,8,27,28,29] true ?_
      simp [go_sem, List.length_cons, List.length_nil]
      repeat (refine And.intro (by first | omega | (intros; omega) | grind) ?_)
      apply k15_; clear k15_
      refine Do.seqk fun _ k16_ => ?_
      refine Do.region [0,27,28,29,35] true ?_
      simp [go_sem, List.length_cons, List.length_nil]
      repeat (refine And.intro (by first | omega | (intros; omega) | grind) ?_)
      refine DoL.call true 1003 rfl rfl rfl rfl (by first | exact trivial | omega | (simp; done) | (simp; omega)) (hZ) rfl (by first | exact .inl rfl | exact .inr rfl) rfl ?_
      simp [go_sem, List.length_cons, List.length_nil]
      apply k16_; clear k16_
      refine Do.cond [0,27,28,29] rfl (fun g4 => ?_) (fun g4 => ?_) <;> simp [go_sem, List.length_cons, List.length_nil] at g4 ⊢
      · refine Do.seqk fun _ k17_ => ?_
        refine Do.region [4] true ?_
        simp [go_sem, List.length_cons, List.length_nil]
        apply k17_; clear k17_
        refine Do.ret ?_
        simp [endQ, rets, ret1, go_sem, List.length_cons, List.length_nil]
        repeat (refine And.intro (by first | omega | (intros; omega) | grind) ?_)
        rw [if_pos g4] at hz
        subst hz
        exact TLe.refl _
      · refine Do.skip ?_
        simp [go_sem]
        apply k14_; clear k14_
        refine Do.region [0,27,28,29] true ?_
        simp [go_sem, List.length_cons, List.length_nil]
        repeat (refine And.intro (by first | omega | (intros; omega) | grind) ?_)
        refine ⟨1, St.le_of (by first | rfl | simp [keep]) (by first | rfl | simp [keep]), ⟨by omega, fun _ => g4⟩, by simp⟩
    · obtain rfl : j = 1 := by omega
      rw [if_neg (hs2 (by omega))] at hz
      refine Do.exit ?_
      simp [go_sem]
      apply k10_; clear k10_
      refine Do.seqk fun _ k18_ => ?_
      refine Do.seqk fun _ k19_ => ?_
      refine Do.region [39] true ?_
      simp [go_sem]
      refine DoL.call true 1302 rfl rfl rfl rfl (by first | exact trivial | omega | (simp; done) | (simp; omega)) (hR) rfl (by first | exact .inl rfl | exact .inr rfl) rfl ?_
      simp [go_sem]
      repeat (refine And.intro (by first | omega | (intros; omega) | grind) ?_)
      apply k19_; clear k19_
      refine Do.cond [] rfl (fun g5 => ?_) (fun g5 => ?_) <;> simp [go_sem] at g5 ⊢
      · refine Do.seqk fun _ k20_ => ?_
        refine Do.region [4] true ?_
        simp [go_sem]
        apply k20_; clear k20_
        refine Do.ret ?_
        simp [endQ, rets, ret1, go_sem]
        repeat (refine And.intro (by first | omega | (intros; omega) | grind) ?_)
        rw [if_neg (by omega)] at hz
        subst hz
        exact TLe.refl _
      · refine Do.skip ?_
        simp [go_sem]
        apply k18_; clear k18_
        refine Do.seqk fun _ k21_ => ?_
        refine Do.region [4] true ?_
        simp [go_sem]
        apply k21_; clear k21_
        refine Do.ret ?_
        simp [endQ, rets, ret1, go_sem]
        repeat (refine And.intro (by first | omega | (intros; omega) | grind) ?_)
        rw [if_pos (by omega)] at hz
        subst hz
        exact TLe.refl _
/-- A rational number with the denominator 1, rounded, or the error. -/
def roundQ (f p r : Int) (n : Bool) (m : List Nat) : Flt × Int × Int :=
  if checkQ r m [1] ≠ 0 then (⟨0, false, 0, 0⟩, 0, checkQ r m [1]) else if fmOk f p = false then (⟨0, false, 0, 0⟩, 0, 150)
  else if val m = 0 then (⟨0, false, 0, 0⟩, 0, 0) else ((roundP f p r n (val m) 0 false).1, (roundP f p r n (val m) 0 false).2, 0)
theorem checkQ_zero {r : Int} {m d : List Nat} (h : checkQ r m d = 0) : m.length ≤ 4096 ∧ d.length ≤ 4096 ∧ val d ≠ 0 ∧ 0 ≤ r ∧ r ≤ 4 := by
  unfold checkQ at h
  split at h
  · omega
  · split at h
    · omega
    · split at h <;> omega
theorem Round_err20 {f p r : Int} {n : Bool} {m d : List Nat} (hm : Sh m) (hd : Sh d) (h : checkQ r m d ≠ 0) : Does Tryd.prog Gv 25 [Fm f p, .c (.i .i64 r), Qr n m d] (.t [Flt.pv ⟨0, false, 0, 0⟩, .c (.i .i64 0), .c (.i .i64 (checkQ r m d))]) := by
  have hC := @check_does20 r n m d hm hd
  generalize checkQ r m d = z at *
  have hz : (z != 0) = true := by simpa using h
  have hz2 : (z == 0) = false := by simpa using h
  refine Does.of (nt := 46) Tryd.func25 rfl rfl rfl (by simp) ?_
  simp only [argTm, PV.ext, Ce.ext]
  refine Do.seqk fun _ k1_ => ?_
  refine Do.region [1,3,5,6] true ?_
  simp [go_sem]
  apply k1_; clear k1_
  refine Do.seqk fun _ k2_ => ?_
  refine Do.region [1,3,5,6,9] true ?_
  simp [go_sem]
  repeat (refine And.intro (by first | omega | (intros; omega) | grind) ?_)
  refine DoL.sealS true 103 102 rfl ?_
  simp [go_sem]
  refine DoL.call true 104 rfl rfl rfl rfl (by first | exact trivial | omega | (simp; done) | (simp; omega)) (hC) rfl (by first | exact .inl rfl | exact .inr rfl) rfl ?_
  simp [go_sem]
  apply k2_; clear k2_
  refine Do.seqk fun _ k3_ => ?_
  refine Do.seqk fun _ k4_ => ?_
  refine Do.region [1,3,5,6,9,17] true ?_
  simp [go_sem, hz, hz2]
  apply k4_; clear k4_
  refine Do.cond [1,3,5,6,9] rfl (fun g1 => ?_) (fun g1 => ?_) <;> simp [go_sem, hz, hz2] at g1 ⊢
  refine Do.skip ?_
  simp [go_sem]
  apply k3_; clear k3_
  refine Do.seqk fun _ k5_ => ?_
  refine Do.seqk fun _ k6_ => ?_
  refine Do.region [1,3,5,6,9,27] true ?_
  simp [go_sem, hz, hz2]
  repeat (refine And.intro (by first | omega | (intros; omega) | grind) ?_)
  refine DoL.gOff true 407 rfl rfl (.v (.c (.b false))) rfl ?_
  simp [go_sem, hz, hz2]
  apply k6_; clear k6_
  refine Do.cond [1,3,5,6,9] rfl (fun g2 => ?_) (fun g2 => ?_) <;> simp [go_sem, hz, hz2] at g2 ⊢
  refine Do.seqk fun _ k7_ => ?_
  refine Do.region [6,7,8] true ?_
  simp [go_sem, hz, hz2]
  repeat (refine And.intro (by first | omega | (intros; omega) | grind) ?_)
  apply k7_; clear k7_
  refine Do.ret ?_
  simp [endQ, rets, ret1, go_sem, hz, hz2]
  repeat (refine And.intro (by first | omega | (intros; omega) | grind) ?_)
  exact TLe.t (.cons (PLe.flt (ret_z rfl)) (.cons (PLe.refl _) (.cons (PLe.refl _) .nil)))
theorem Round_fmt20 {f p r : Int} {n : Bool} {m d : List Nat} (hm : Sh m) (hd : Sh d) (h : checkQ r m d = 0) (hf : fmOk f p = false) : Does Tryd.prog Gv 25 [Fm f p, .c (.i .i64 r), Qr n m d] (.t [Flt.pv ⟨0, false, 0, 0⟩, .c (.i .i64 0), .c (.i .i64 150)]) := by
  have hC := @check_does20 r n m d hm hd
  rw [h] at hC
  have hF := @Check_does Gv f p
  rw [if_neg (by simp [hf])] at hF
  refine Does.of (nt := 46) Tryd.func25 rfl rfl rfl (by simp) ?_
  simp only [argTm, PV.ext, Ce.ext]
  refine Do.seqk fun _ k1_ => ?_
  refine Do.region [1,3,5,6] true ?_
  simp [go_sem]
  apply k1_; clear k1_
  refine Do.seqk fun _ k2_ => ?_
  refine Do.region [1,3,5,6,9] true ?_
  simp [go_sem]
  repeat (refine And.intro (by first | omega | (intros; omega) | grind) ?_)
  refine DoL.sealS true 103 102 rfl ?_
  simp [go_sem]
  refine DoL.call true 104 rfl rfl rfl rfl (by first | exact trivial | omega | (simp; done) | (simp; omega)) (hC) rfl (by first | exact .inl rfl | exact .inr rfl) rfl ?_
  simp [go_sem]
  apply k2_; clear k2_
  refine Do.seqk fun _ k3_ => ?_
  refine Do.seqk fun _ k4_ => ?_
  refine Do.region [1,3,5,6,9,17] true ?_
  simp [go_sem]
  apply k4_; clear k4_
  refine Do.cond [1,3,5,6,9] rfl (fun g1 => ?_) (fun g1 => ?_) <;> simp [go_sem] at g1 ⊢
  refine Do.region [1,3,5,6,9] true ?_
  simp [go_sem]
  repeat (refine And.intro (by first | omega | (intros; omega) | grind) ?_)
  refine DoL.call true 302 rfl rfl rfl rfl (by first | exact trivial | omega | (simp; done) | (simp; omega)) (hF) rfl (by first | exact .inl rfl | exact .inr rfl) rfl ?_
  simp [go_sem]
  apply k3_; clear k3_
  refine Do.seqk fun _ k5_ => ?_
  refine Do.seqk fun _ k6_ => ?_
  refine Do.region [1,3,5,6,9,27] true ?_
  simp [go_sem]
  repeat (refine And.intro (by first | omega | (intros; omega) | grind) ?_)
  refine DoL.gOff true 407 rfl rfl (.v (.c (.b false))) rfl ?_
  simp [go_sem]
  apply k6_; clear k6_
  refine Do.cond [1,3,5,6,9] rfl (fun g2 => ?_) (fun g2 => ?_) <;> simp [go_sem] at g2 ⊢
  refine Do.seqk fun _ k7_ => ?_
  refine Do.region [6,7,8] true ?_
  simp [go_sem]
  repeat (refine And.intro (by first | omega | (intros; omega) | grind) ?_)
  apply k7_; clear k7_
  refine Do.ret ?_
  simp [endQ, rets, ret1, go_sem]
  repeat (refine And.intro (by first | omega | (intros; omega) | grind) ?_)
  exact TLe.t (.cons (PLe.flt (ret_z rfl)) (.cons (PLe.refl _) (.cons (PLe.refl _) .nil)))
theorem Round_zero20 {f p r : Int} {n : Bool} {m d : List Nat} (hm : Sh m) (hd : Sh d) (h : checkQ r m d = 0) (hf : fmOk f p = true) (h0 : val m = 0) : Does Tryd.prog Gv 25 [Fm f p, .c (.i .i64 r), Qr n m d] (.t [Flt.pv ⟨0, false, 0, 0⟩, .c (.i .i64 0), .c (.i .i64 0)]) := by
  have hC := @check_does20 r n m d hm hd
  rw [h] at hC
  have hF := @Check_does Gv f p
  rw [if_pos hf] at hF
  have hZ := @Zero_does Gv m hm
  rw [decide_eq_true h0] at hZ
  refine Does.of (nt := 46) Tryd.func25 rfl rfl rfl (by simp) ?_
  simp only [argTm, PV.ext, Ce.ext]
  refine Do.seqk fun _ k1_ => ?_
  refine Do.region [1,3,5,6] true ?_
  simp [go_sem]
  apply k1_; clear k1_
  refine Do.seqk fun _ k2_ => ?_
  refine Do.region [1,3,5,6,9] true ?_
  simp [go_sem]
  repeat (refine And.intro (by first | omega | (intros; omega) | grind) ?_)
  refine DoL.sealS true 103 102 rfl ?_
  simp [go_sem]
  refine DoL.call true 104 rfl rfl rfl rfl (by first | exact trivial | omega | (simp; done) | (simp; omega)) (hC) rfl (by first | exact .inl rfl | exact .inr rfl) rfl ?_
  simp [go_sem]
  apply k2_; clear k2_
  refine Do.seqk fun _ k3_ => ?_
  refine Do.seqk fun _ k4_ => ?_
  refine Do.region [1,3,5,6,9,17] true ?_
  simp [go_sem]
  apply k4_; clear k4_
  refine Do.cond [1,3,5,6,9] rfl (fun g1 => ?_) (fun g1 => ?_) <;> simp [go_sem] at g1 ⊢
  refine Do.region [1,3,5,6,9] true ?_
  simp [go_sem]
  repeat (refine And.intro (by first | omega | (intros; omega) | grind) ?_)
  refine DoL.call true 302 rfl rfl rfl rfl (by first | exact trivial | omega | (simp; done) | (simp; omega)) (hF) rfl (by first | exact .inl rfl | exact .inr rfl) rfl ?_
  simp [go_sem]
  apply k3_; clear k3_
  refine Do.seqk fun _ k5_ => ?_
  refine Do.seqk fun _ k6_ => ?_
  refine Do.region [1,3,5,6,9,27] true ?_
  simp [go_sem]
  repeat (refine And.intro (by first | omega | (intros; omega) | grind) ?_)
  refine DoL.callg true 407 rfl rfl rfl rfl rfl (by simp [go_sem] <;> omega) (fun _ => hZ) rfl (by first | exact .inl rfl | exact .inr rfl) rfl ?_
  simp [go_sem]
  apply k6_; clear k6_
  refine Do.cond [1,3,5,6,9] rfl (fun g2 => ?_) (fun g2 => ?_) <;> simp [go_sem] at g2 ⊢
  refine Do.seqk fun _ k7_ => ?_
  refine Do.region [6,7,8] true ?_
  simp [go_sem]
  repeat (refine And.intro (by first | omega | (intros; omega) | grind) ?_)
  apply k7_; clear k7_
  refine Do.ret ?_
  simp [endQ, rets, ret1, go_sem]
  repeat (refine And.intro (by first | omega | (intros; omega) | grind) ?_)
  exact TLe.t (.cons (PLe.flt (ret_z rfl)) (.cons (PLe.refl _) (.cons (PLe.refl _) .nil)))
theorem Round_one {f p r : Int} {n : Bool} {m : List Nat} (hm : Sh m) (wm : Ws m) : Does Tryd.prog Gv 25 [Fm f p, .c (.i .i64 r), Qr n m [1]] (Res (roundQ f p r n m)) := by
  unfold roundQ
  by_cases h : checkQ r m [1] = 0
  · rw [if_neg (by omega)]
    cases hf : fmOk f p with
    | false => rw [if_pos rfl]; exact Round_fmt20 hm (by decide) h hf
    | true =>
      rw [if_neg (by simp)]
      by_cases h0 : val m = 0
      · rw [if_pos h0]; exact Round_zero20 hm (by decide) h hf h0
      · rw [if_neg h0]
        obtain ⟨c1, c2, c3, c4, c5⟩ := checkQ_zero h
        have hC := @check_does20 r n m [1] hm (by decide)
        rw [h] at hC
        have hF := @Check_does Gv f p
        rw [if_pos hf] at hF
        have hZ := @Zero_does Gv m hm
        rw [decide_eq_false h0] at hZ
        have hR := @Ratio_one f p r hf c4 c5 n m c1 wm (by omega)
        generalize roundP f p r n (val m) 0 false = z at *
        refine Does.of (nt := 46) Tryd.func25 rfl rfl rfl (by simp) ?_
        simp only [argTm, PV.ext, Ce.ext]
        refine Do.seqk fun _ k1_ => ?_
        refine Do.region [1,3,5,6] true ?_
        simp [go_sem]
        apply k1_; clear k1_
        refine Do.seqk fun _ k2_ => ?_
        refine Do.region [1,3,5,6,9] true ?_
        simp [go_sem]
        repeat (refine And.intro (by first | omega | (intros; omega) | grind) ?_)
        refine DoL.sealS true 103 102 rfl ?_
        simp [go_sem]
        refine DoL.call true 104 rfl rfl rfl rfl (by first | exact trivial | omega | (simp; done) | (simp; omega)) (hC) rfl (by first | exact .inl rfl | exact .inr rfl) rfl ?_
        simp [go_sem]
        apply k2_; clear k2_
        refine Do.seqk fun _ k3_ => ?_
        refine Do.seqk fun _ k4_ => ?_
        refine Do.region [1,3,5,6,9,17] true ?_
        simp [go_sem]
        apply k4_; clear k4_
        refine Do.cond [1,3,5,6,9] rfl (fun g1 => ?_) (fun g1 => ?_) <;> simp [go_sem] at g1 ⊢
        refine Do.region [1,3,5,6,9] true ?_
        simp [go_sem]
        repeat (refine And.intro (by first | omega | (intros; omega) | grind) ?_)
        refine DoL.call true 302 rfl rfl rfl rfl (by first | exact trivial | omega | (simp; done) | (simp; omega)) (hF) rfl (by first | exact .inl rfl | exact .inr rfl) rfl ?_
        simp [go_sem]
        apply k3_; clear k3_
        refine Do.seqk fun _ k5_ => ?_
        refine Do.seqk fun _ k6_ => ?_
        refine Do.region [1,3,5,6,9,27] true ?_
        simp [go_sem]
        repeat (refine And.intro (by first | omega | (intros; omega) | grind) ?_)
        refine DoL.callg true 407 rfl rfl rfl rfl rfl (by simp [go_sem] <;> omega) (fun _ => hZ) rfl (by first | exact .inl rfl | exact .inr rfl) rfl ?_
        simp [go_sem]
        apply k6_; clear k6_
        refine Do.cond [1,3,5,6,9] rfl (fun g2 => ?_) (fun g2 => ?_) <;> simp [go_sem] at g2 ⊢
        refine Do.skip ?_
        simp [go_sem]
        apply k5_; clear k5_
        refine Do.seqk fun _ k7_ => ?_
        refine Do.region [6,10,11] true ?_
        simp [go_sem]
        repeat (refine And.intro (by first | omega | (intros; omega) | grind) ?_)
        refine DoL.call true 611 rfl rfl rfl rfl (by first | exact trivial | omega | (simp; done) | (simp; omega)) (hR) rfl (by first | exact .inl rfl | exact .inr rfl) rfl ?_
        simp [go_sem]
        repeat (refine And.intro (by first | omega | (intros; omega) | grind) ?_)
        apply k7_; clear k7_
        refine Do.seqk fun _ k8_ => ?_
        refine Do.region [6,7,8] true ?_
        simp [go_sem]
        repeat (refine And.intro (by first | omega | (intros; omega) | grind) ?_)
        apply k8_; clear k8_
        refine Do.ret ?_
        simp [endQ, rets, ret1, go_sem]
        repeat (refine And.intro (by first | omega | (intros; omega) | grind) ?_)
        exact TLe.refl _
  · rw [if_pos h]; exact Round_err20 hm (by decide) h
theorem ws_one {w : Nat} (h : w < 18446744073709551616) : Ws [w] := fun u hu => by simp at hu; omega
theorem awk_round : roundQ 5 11 2 false [2049] = (⟨1, false, 11, 1⟩, 1, 0) := by kernel_rfl
theorem Odd_awake : Does Tryd.prog Gv 24 [Fm 5 11, Qr false [2049] [1]] (.t [Flt.pv ⟨1, false, 1, 1025⟩, .c (.i .i64 1), .c (.i .i64 0)]) := by
  have hR := @Round_one 5 11 2 false [2049] (by decide) (ws_one (by decide))
  rw [awk_round] at hR
  have hR : Does Tryd.prog Gv 25 [Fm 5 11, .c (.i .i64 2), Qr false [2049] [1]] (.t [Fl 1 false 11 (nat 1), .c (.i .i64 1), .c (.i .i64 0)]) := hR
  rw [nat_one] at hR
  have hG : Does Tryd.prog Gv 46 [Fm 5 11] (.t [.c (.i .i64 (-14)), .c (.i .i64 15), .c (.i .i64 (-24)), .c (.i .i64 0)]) := @Range_does Gv 5 11 rfl
  have hL : Does Tryd.prog Gv 52 [Fm 5 11] (.t [Fl 1 false 5 (nat 2047), (Flt.mk 1 false (-14) 1).pv, (Flt.mk 1 false (-24) 1).pv, .c (.i .i64 0)]) := @Limits_does Gv 5 11 rfl
  have hS1 : Does Tryd.prog Gv 53 [Fm 5 11, .c (.i .i64 (-14))] (.v (.c (.i .i64 (-24)))) := @Step_does Gv 5 11 (-14) rfl (by decide) (by decide)
  have hS2 : Does Tryd.prog Gv 53 [Fm 5 11, .c (.i .i64 11)] (.v (.c (.i .i64 1))) := @Step_does Gv 5 11 11 rfl (by decide) (by decide)
  have hN : Does Tryd.prog Gv 54 [Wd [1]] (.int .i64 1) := @Len_does Gv [1] (by decide) (ws_one (by decide))
  have hSh : Does Tryd.prog Gv 57 [Wd [1], .c (.i .i64 10)] (.v (Wn (nat 1024))) := @Shl_does Gv [1] (by decide) (ws_one (by decide)) 10 (by decide)
  have hA := @Add_does Gv (nat 1024) [1] (by rw [nat_word (by decide) (by decide)]; decide) (by decide) (nat_ws _) (ws_one (by decide)) (by rw [nat_word (by decide) (by decide)]; decide) (by decide)
  rw [val_nat, show 1024 + val [1] = 1025 from rfl] at hA
  have hM := @Make_does false (nat 1025) 1 (by rw [nat_word (by decide) (by decide)]; decide) (nat_ws _) (by decide) (by decide)
  rw [val_nat, show mkP false 1025 1 = ⟨1, false, 1, 1025⟩ by kernel_rfl] at hM
  refine Does.of (nt := 109) Tryd.func24 rfl rfl rfl (by simp) ?_
  simp only [argTm, PV.ext, Ce.ext]
  refine Do.seqk fun _ k1_ => ?_
  refine Do.region [2,3,4] true ?_
  simp [go_sem]
  apply k1_; clear k1_
  refine Do.seqk fun _ k2_ => ?_
  refine Do.region [2,3,4,7,8,9] true ?_
  simp [go_sem]
  repeat (refine And.intro (by first | omega | (intros; omega) | grind) ?_)
  refine DoL.call true 103 rfl rfl rfl rfl (by first | exact trivial | omega | (simp; done) | (simp; omega)) (hR) rfl (by first | exact .inl rfl | exact .inr rfl) rfl ?_
  simp [go_sem]
  repeat (refine And.intro (by first | omega | (intros; omega) | grind) ?_)
  apply k2_; clear k2_
  refine Do.seqk fun _ k3_ => ?_
  refine Do.seqk fun _ k4_ => ?_
  refine Do.region [2,3,4,7,8,9,31] true ?_
  simp [go_sem]
  apply k4_; clear k4_
  refine Do.cond [2,3,4,7,8,9] rfl (fun g1 => ?_) (fun g1 => ?_) <;> simp [go_sem] at g1 ⊢
  refine Do.skip ?_
  simp [go_sem]
  apply k3_; clear k3_
  refine Do.seqk fun _ k5_ => ?_
  refine Do.region [2,3,4,7,8,10] true ?_
  simp [go_sem]
  repeat (refine And.intro (by first | omega | (intros; omega) | grind) ?_)
  refine DoL.call true 402 rfl rfl rfl rfl (by first | exact trivial | omega | (simp; done) | (simp; omega)) (hG) rfl (by first | exact .inl rfl | exact .inr rfl) rfl ?_
  simp [go_sem]
  apply k5_; clear k5_
  refine Do.seqk fun _ k6_ => ?_
  refine Do.seqk fun _ k7_ => ?_
  refine Do.region [2,3,4,7,8,10,14] true ?_
  simp [go_sem]
  repeat (refine And.intro (by first | omega | (intros; omega) | grind) ?_)
  refine DoL.call true 502 rfl rfl rfl rfl (by first | exact trivial | omega | (simp; done) | (simp; omega)) (hL) rfl (by first | exact .inl rfl | exact .inr rfl) rfl ?_
  simp [go_sem]
  repeat (refine And.intro (by first | omega | (intros; omega) | grind) ?_)
  apply k7_; clear k7_
  refine Do.seqk fun _ k8_ => ?_
  refine Do.region [2,3,4,7,8,10,66] true ?_
  simp [go_sem]
  repeat (refine And.intro (by first | omega | (intros; omega) | grind) ?_)
  refine DoL.gOff true 616 rfl rfl (.int .i64 0) rfl ?_
  simp [go_sem]
  apply k8_; clear k8_
  refine Do.cond [2,3,4,7,8,10] rfl (fun g2 => ?_) (fun g2 => ?_) <;> simp [go_sem] at g2 ⊢
  refine Do.skip ?_
  simp [go_sem]
  apply k6_; clear k6_
  refine Do.seqk fun _ k9_ => ?_
  refine Do.region [2,3,4,7,8,18] true ?_
  simp [go_sem]
  repeat (refine And.intro (by first | omega | (intros; omega) | grind) ?_)
  refine DoL.call true 803 rfl rfl rfl rfl (by first | exact trivial | omega | (simp; done) | (simp; omega)) (hS1) rfl (by first | exact .inl rfl | exact .inr rfl) rfl ?_
  simp [go_sem]
  apply k9_; clear k9_
  refine Do.seqk fun _ k10_ => ?_
  refine Do.seqk fun _ k11_ => ?_
  refine Do.region [2,3,4,7,8,18,73] true ?_
  simp [go_sem]
  repeat (refine And.intro (by first | omega | (intros; omega) | grind) ?_)
  apply k11_; clear k11_
  refine Do.cond [2,3,4,7,8,18] rfl (fun g3 => ?_) (fun g3 => ?_) <;> simp [go_sem] at g3 ⊢
  refine Do.draw [3,4,7,8,18] true (by kernel_rfl) ?_
  simp [go_sem]
  repeat (refine And.intro (by first | omega | (intros; omega) | kernel_rfl | grind) ?_)
  refine DoLD.call true 1006 rfl rfl rfl rfl (by first | exact trivial | omega | (simp; done) | (simp; omega)) (hN) rfl (by first | exact .inl rfl | exact .inr rfl) rfl ?_
  simp [go_sem]
  repeat (refine And.intro (by first | omega | (intros; omega) | kernel_rfl | grind) ?_)
  refine DoLD.call true 1009 rfl rfl rfl rfl (by first | exact trivial | omega | (simp; done) | (simp; omega)) (hS2) rfl (by first | exact .inl rfl | exact .inr rfl) rfl ?_
  simp [go_sem]
  try (refine And.intro (by kernel_rfl) ?_)
  apply k10_; clear k10_
  refine Do.seqk fun _ k12_ => ?_
  refine Do.seqk fun _ k13_ => ?_
  refine Do.region [3,4,7,8,18,91] true ?_
  simp [go_sem]
  repeat (refine And.intro (by first | omega | (intros; omega) | grind) ?_)
  apply k13_; clear k13_
  refine Do.cond [3,4,7,8,18] rfl (fun g4 => ?_) (fun g4 => ?_) <;> simp [go_sem] at g4 ⊢
  refine Do.draw [4,7,8] true (by kernel_rfl) ?_
  simp [go_sem]
  repeat (refine And.intro (by first | omega | (intros; omega) | kernel_rfl | grind) ?_)
  refine DoLD.call true 1211 rfl rfl rfl rfl (by first | exact trivial | omega | (simp; done) | (simp; omega)) (hSh) rfl (by first | exact .inl rfl | exact .inr rfl) rfl ?_
  simp [go_sem]
  refine DoLD.call true 1213 rfl rfl rfl rfl (by first | exact trivial | omega | (simp; done) | (simp; omega)) (hA) rfl (by first | exact .inl rfl | exact .inr rfl) rfl ?_
  simp [go_sem]
  refine DoLD.call true 1215 rfl rfl rfl rfl (by first | exact trivial | omega | (simp; done) | (simp; omega)) (hM) rfl (by first | exact .inl rfl | exact .inr rfl) rfl ?_
  simp [go_sem]
  repeat (refine And.intro (by first | omega | (intros; omega) | kernel_rfl | grind) ?_)
  try (refine And.intro (by kernel_rfl) ?_)
  apply k12_; clear k12_
  refine Do.seqk fun _ k14_ => ?_
  refine Do.region [4,5,6] true ?_
  simp [go_sem]
  repeat (refine And.intro (by first | omega | (intros; omega) | grind) ?_)
  apply k14_; clear k14_
  refine Do.ret ?_
  simp [endQ, rets, ret1, go_sem]
  repeat (refine And.intro (by first | omega | (intros; omega) | grind) ?_)
  exact TLe.refl _
theorem NoInt_does20 {z : Int} {n : Bool} {m : List Nat} (hm : Sh m) : Does Tryd.prog Gv 34 [.a [.b n, .w false m]] (.v (.c (.b (!n && decide (m = []))))) := by
  have hl : decide (((m.length : Nat) : Int) = 0) = decide (m = []) := by
    congr 1
    cases m <;> simp
    omega
  refine Does.of (nt := 12) Tryd.func34 rfl rfl rfl (by simp) ?_
  simp only [argTm, PV.ext, Ce.ext]
  refine Do.seqk fun _ k1_ => ?_
  refine Do.region [1] true ?_
  simp [go_sem]
  apply k1_; clear k1_
  refine Do.seqk fun _ k2_ => ?_
  refine Do.region [2] true ?_
  simp [go_sem]
  repeat (refine And.intro (by first | omega | (intros; omega) | grind) ?_)
  apply k2_; clear k2_
  refine Do.ret ?_
  simp [endQ, rets, ret1, go_sem]
  repeat (refine And.intro (by first | omega | (intros; omega) | grind) ?_)
  exact ret_b (by cases m with | nil => simp | cons a l => simp; intro _; omega)
theorem awk_conv : convP 8 24 5 11 0 ⟨1, false, 4, [4095]⟩ = (⟨2, false, 0, 0⟩, 5, 0) := by kernel_rfl
theorem awk_fit : fitP 5 11 8 24 = true := by kernel_rfl
theorem awk_toE : argsC 5 11 5 11 3 false ⟨1, true, -1, [1]⟩ = 0 := by kernel_rfl
theorem awk_toA : (holdsP 5 11 ⟨1, true, -1, 1⟩).1 = ⟨1, true, -1, 1⟩ := by kernel_rfl
theorem awk_toW : wholeP 3 ⟨true, 1, -1⟩ = (0, false) := by kernel_rfl
theorem awake20_does : Does Tryd.prog Gv 10 [] (.v (.c (.b true))) := by
  have o1 : (Fla.mk 1 false 4 [4095]).Ok := ⟨by simp [Sh], ws_one (by decide), by constructor <;> simp⟩
  have o2 : (Fla.mk 1 true (-1) [1]).Ok := ⟨by simp [Sh], ws_one (by decide), by constructor <;> simp⟩
  have h1 := Convert_does (f := 8) (p := 24) (g := 5) (q := 11) (r := 0) o1
  rw [awk_conv] at h1
  have h1 : Does Tryd.prog Gv 16 [Fm 8 24, Fm 5 11, .c (.i .i64 0), Fl 1 false 4 [4095]] (.t [Fl 2 false 0 (nat 0), .c (.i .i64 5), .c (.i .i64 0)]) := h1
  have h2 := @Fit_does20 5 11 8 24 rfl rfl
  rw [awk_fit] at h2
  have h3 := @ToInt_does 5 11 3 ⟨1, true, -1, [1]⟩ o2 awk_toE ⟨1, true, -1, 1⟩ awk_toA (.inr rfl) ⟨by decide, by decide⟩
  have h3 : Does Tryd.prog Gv 12 [Fm 5 11, .c (.i .i64 3), Fl 1 true (-1) [1]] (.t [Iv (sgn true (wholeP 3 ⟨true, 1, -1⟩).1), .c (.i .i64 (if (wholeP 3 ⟨true, 1, -1⟩).2 then 0 else 1)), .c (.i .i64 0)]) := h3
  rw [awk_toW] at h3
  have h3 : Does Tryd.prog Gv 12 [Fm 5 11, .c (.i .i64 3), Fl 1 true (-1) [1]] (.t [.a [.b false, .w false (nat 0)], .c (.i .i64 1), .c (.i .i64 0)]) := h3
  have h4 := Odd_awake
  have h4 : Does Tryd.prog Gv 24 [Fm 5 11, Qr false [2049] [1]] (.t [Fl 1 false 1 (nat 1025), .c (.i .i64 1), .c (.i .i64 0)]) := h4
  have h5 := @NoInt_does20 0 false [] (by decide)
  rw [nat_zero] at h1 h3
  rw [nat_word (by decide) (by decide)] at h4
  refine Does.of (nt := 107) Tryd.func10 rfl rfl rfl (by simp) ?_
  simp only [argTm, PV.ext, Ce.ext]
  refine Do.seqk fun _ k1_ => ?_
  refine Do.region [] true ?_
  simp [go_sem]
  apply k1_; clear k1_
  refine Do.seqk fun _ k2_ => ?_
  refine Do.region [1] true ?_
  simp [go_sem]
  repeat (refine And.intro (by first | omega | (intros; omega) | grind) ?_)
  apply k2_; clear k2_
  refine Do.seqk fun _ k3_ => ?_
  refine Do.region [1,2] true ?_
  simp [go_sem]
  repeat (refine And.intro (by first | omega | (intros; omega) | grind) ?_)
  apply k3_; clear k3_
  refine Do.seqk fun _ k4_ => ?_
  refine Do.region [1,2,3] true ?_
  simp [go_sem]
  repeat (refine And.intro (by first | omega | (intros; omega) | grind) ?_)
  apply k4_; clear k4_
  refine Do.seqk fun _ k5_ => ?_
  refine Do.frz 300 rfl ?_
  refine Do.region [1,2,4,5,6] true ?_
  simp [go_sem]
  repeat (refine And.intro (by first | omega | (intros; omega) | grind) ?_)
  refine DoL.call true 404 rfl rfl rfl rfl (by first | exact trivial | omega | (simp; done) | (simp; omega)) (h1) rfl (by first | exact .inl rfl | exact .inr rfl) rfl ?_
  simp [go_sem]
  repeat (refine And.intro (by first | omega | (intros; omega) | grind) ?_)
  apply k5_; clear k5_
  refine Do.seqk fun _ k6_ => ?_
  refine Do.region [1,4,5,6,7,8] true ?_
  simp [go_sem]
  repeat (refine And.intro (by first | omega | (intros; omega) | grind) ?_)
  refine DoL.call true 503 rfl rfl rfl rfl (by first | exact trivial | omega | (simp; done) | (simp; omega)) (h2) rfl (by first | exact .inl rfl | exact .inr rfl) rfl ?_
  simp [go_sem]
  apply k6_; clear k6_
  refine Do.seqk fun _ k7_ => ?_
  refine Do.region [1,4,5,6,7,8,9,10,11] true ?_
  simp [go_sem]
  repeat (refine And.intro (by first | omega | (intros; omega) | grind) ?_)
  refine DoL.frz true 603 601 rfl ?_
  simp [go_sem]
  refine DoL.call true 604 rfl rfl rfl rfl (by first | exact trivial | omega | (simp; done) | (simp; omega)) (h3) rfl (by first | exact .inl rfl | exact .inr rfl) rfl ?_
  simp [go_sem]
  repeat (refine And.intro (by first | omega | (intros; omega) | grind) ?_)
  apply k7_; clear k7_
  refine Do.seqk fun _ k8_ => ?_
  refine Do.region [4,5,6,7,8,9,10,11,12,13,14] true ?_
  simp [go_sem]
  repeat (refine And.intro (by first | omega | (intros; omega) | grind) ?_)
  refine DoL.frz true 705 701 rfl ?_
  simp [go_sem]
  refine DoL.frz true 705 703 rfl ?_
  simp [go_sem]
  refine DoL.call true 706 rfl rfl rfl rfl (by first | exact trivial | omega | (simp; done) | (simp; omega)) (h4) rfl (by first | exact .inl rfl | exact .inr rfl) rfl ?_
  simp [go_sem]
  repeat (refine And.intro (by first | omega | (intros; omega) | grind) ?_)
  apply k8_; clear k8_
  refine Do.seqk fun _ k9_ => ?_
  refine Do.region [0] true ?_
  simp [go_sem]
  repeat (refine And.intro (by first | omega | (intros; omega) | grind) ?_)
  refine DoL.callg true 829 rfl rfl rfl rfl rfl (by simp [go_sem] <;> omega) (fun _ => h5) rfl (by first | exact .inl rfl | exact .inr rfl) rfl ?_
  simp [go_sem]
  repeat (refine And.intro (by first | omega | (intros; omega) | grind) ?_)
  apply k9_; clear k9_
  refine Do.ret ?_
  simp [endQ, rets, ret1, go_sem]
  repeat (refine And.intro (by first | omega | (intros; omega) | grind) ?_)
  exact TLe.refl _
end Go.Proofs.YtokgalpflooegaaDoor
/- The law ConvertFormats. No condition. -/
namespace Go.Proofs.YtokgalpflooegaaDoor
set_option linter.unusedVariables false
set_option linter.unusedSimpArgs false
set_option maxHeartbeats 4000000
set_option maxRecDepth 10000
end Go.Proofs.YtokgalpflooegaaDoor
/- Integers, natural and rational numbers among the arguments of a law. No condition. -/
namespace Go.Proofs.YtokgalpflooegaaDoor
set_option linter.unusedVariables false
set_option linter.unusedSimpArgs false
open Go.ChangeShapes Go.WideShapes Go.ChangeAt Go.RowKit
set_option maxRecDepth 100000
theorem arg_qr {H : Type} {enc : TypeId × Value → H} {W : World} {b0 : Nat} {sp : Nat → Bool} {held : Bool} {v : Value} {d : DataW H} {ps : List MemPlace} (hval : Value.okWide Tryd.prog W .any b0 50 v) (h : DataW.Trod enc Tryd.prog W 0 sp held 50 v d ps) : ∃ n m k, Ws m ∧ Ws k ∧ RP (enA W fun b => b < W.heap.size) (.a [.b n, .w false m, .w false k]) v := by
  obtain ⟨ces, h1, h2⟩ := open_struct (ok := fun b => b < W.heap.size) (f := 3) (cts := [.b, .w, .w]) (fun _ h => h) Tryd.underlying50 (by kernel_rfl) hval h
  cases h2 with | cons g h2 => cases h2 with | cons g' h2 => cases h2 with | cons g3 h2 => cases h2 with | nil =>
  obtain ⟨n, rfl⟩ := g
  obtain ⟨m, rfl, hm⟩ := g'
  obtain ⟨k, rfl, hk⟩ := g3
  exact ⟨n, m, k, hm, hk, h1⟩
end Go.Proofs.YtokgalpflooegaaDoor
/- The float with a rational value, in general. No condition. -/
namespace Go.Proofs.YtokgalpflooegaaDoor
set_option linter.unusedVariables false
set_option linter.unusedSimpArgs false
set_option maxHeartbeats 8000000
set_option maxRecDepth 10000
theorem Dq.down {K J : Nat} {z w : Int} {d : Nat} (h : Dq (K + J) z d (w * ((2 ^ J : Nat) : Int))) : Dq K z d w := by
  refine ⟨?_, h.pos, h.cop⟩
  have e := h.eq
  rw [Nat.pow_add, Int.natCast_mul, ← Int.mul_assoc] at e
  have e2 : z * ((2 ^ K : Nat) : Int) * ((2 ^ J : Nat) : Int) = w * (d : Int) * ((2 ^ J : Nat) : Int) := by rw [e]; ac_rfl
  exact Int.eq_of_mul_eq_mul_right (pow_ne J) e2
end Go.Proofs.YtokgalpflooegaaDoor
/- Division of two words by one. No condition. -/
namespace Go.Proofs.YtokgalpflooegaaDoor
set_option linter.unusedVariables false
set_option linter.unusedSimpArgs false
variable {G : Gl}
set_option maxHeartbeats 4000000
set_option maxRecDepth 10000
theorem half_lt {A c D : Nat} (hA : A < D) (hc : c < 4294967296) : A * 4294967296 + c < D * 4294967296 := by
  have := Nat.mul_le_mul_right 4294967296 (show A + 1 ≤ D from hA)
  omega
theorem half_q {A c D : Nat} (hA : A < D) (hc : c < 4294967296) : (A * 4294967296 + c) / D < 4294967296 :=
  (Nat.div_lt_iff_lt_mul (by omega)).2 (by have := half_lt hA hc; omega)
/-- The state of a loop that finds a half of a quotient. -/
structure HalfI (A c v1 v0 q rh : Nat) : Prop where
  eq : q * v1 + rh = A
  ge : (A * 4294967296 + c) / (v1 * 4294967296 + v0) ≤ q
  le : q ≤ 4294967297
theorem HalfI.start {A c v1 v0 : Nat} (h1 : 2147483648 ≤ v1) (h0 : v0 < 4294967296) (hA : A < v1 * 4294967296 + v0) (hc : c < 4294967296) : HalfI A c v1 v0 (A / v1) (A - A / v1 * v1) := by
  have e := Nat.div_mul_le_self A v1
  refine ⟨by omega, ?_, ?_⟩
  · rw [Nat.le_div_iff_mul_le (by omega)]
    have h2 := Nat.div_mul_le_self (A * 4294967296 + c) (v1 * 4294967296 + v0)
    generalize (A * 4294967296 + c) / (v1 * 4294967296 + v0) = Q at *
    rw [Nat.mul_add, ← Nat.mul_assoc] at h2
    generalize Q * v1 = u at *
    generalize Q * v0 = w at *
    omega
  · have : A / v1 < 4294967298 := by
      rw [Nat.div_lt_iff_lt_mul (by omega)]
      omega
    omega
theorem HalfI.dec {A c v1 v0 q rh : Nat} (h : HalfI A c v1 v0 q rh) (hA : A < v1 * 4294967296 + v0) (hc : c < 4294967296) (hq : 4294967296 ≤ q ∨ rh * 4294967296 + c < q * v0) : 1 ≤ q ∧ HalfI A c v1 v0 (q - 1) (rh + v1) := by
  have hQ := half_q hA hc
  have hlt : (A * 4294967296 + c) / (v1 * 4294967296 + v0) < q := by
    rcases hq with hq | hq
    · omega
    · rw [Nat.div_lt_iff_lt_mul (by omega), Nat.mul_add, ← Nat.mul_assoc]
      have e := h.eq
      have e2 : A * 4294967296 = q * v1 * 4294967296 + rh * 4294967296 := by rw [← e, Nat.add_mul]
      rw [e2, Nat.add_assoc]
      exact Nat.add_lt_add_left hq _
  have hge := h.ge
  have heq := h.eq
  have hle := h.le
  clear h
  generalize hQe : (A * 4294967296 + c) / (v1 * 4294967296 + v0) = Q at *
  obtain ⟨j, rfl⟩ : ∃ j, q = j + 1 := ⟨q - 1, by omega⟩
  rw [Nat.add_mul] at heq
  exact ⟨by omega, by simp only [Nat.add_sub_cancel]; omega, by rw [hQe]; omega, by omega⟩
theorem HalfI.fin {A c v1 v0 q rh : Nat} (h : HalfI A c v1 v0 q rh) (hv : 0 < v1) (hq : q * v0 ≤ rh * 4294967296 + c) : q = (A * 4294967296 + c) / (v1 * 4294967296 + v0) := by
  refine Nat.le_antisymm ?_ h.ge
  rw [Nat.le_div_iff_mul_le (by omega), Nat.mul_add, ← Nat.mul_assoc]
  have := h.eq
  clear h
  generalize q * v1 = u at *
  generalize q * v0 = w at *
  omega
theorem HalfI.brk {A c v1 v0 q rh : Nat} (h : HalfI A c v1 v0 q rh) (hv : 0 < v1) (h0 : v0 < 4294967296) (hq : q ≤ 4294967296) (hr : 4294967296 ≤ rh) : q = (A * 4294967296 + c) / (v1 * 4294967296 + v0) := by
  refine h.fin hv ?_
  have h1 : q * v0 ≤ 4294967296 * v0 := Nat.mul_le_mul_right _ hq
  omega
theorem halves {N c D : Nat} (hD : 0 < D) : (N * 4294967296 + c) / D = N / D * 4294967296 + (N % D * 4294967296 + c) / D ∧ (N * 4294967296 + c) % D = (N % D * 4294967296 + c) % D := by
  have e : N * 4294967296 + c = (N % D * 4294967296 + c) + D * (N / D * 4294967296) := by
    have := Nat.div_add_mod N D
    rw [← Nat.mul_assoc]
    generalize D * (N / D) = u at *
    omega
  constructor
  · conv => lhs; rw [e, Nat.add_mul_div_left _ _ hD]
    omega
  · rw [e, Nat.add_mul_mod_self_left]
theorem take_off {P c Y R : Nat} (h : P + c = Y + R) (hR : R < M64) : ((P + c) % M64 + M64 - Y % M64) % M64 = R := by
  unfold M64 at *; omega
theorem two_lim {a b : Nat} (ha : a < 4294967296) (hb : b < 4294967296) : (a * 4294967296 + b) % M64 = a * 4294967296 + b := Nat.mod_eq_of_lt (by unfold M64; omega)
theorem Lz_does {x : Nat} (hx : x < 18446744073709551616) : Does Tryd.prog G 112 [.c (.n x)] (.int .i64 (64 - bl x)) := by
  have h := @Len64_does G x hx
  have hb := bl_word hx
  rw [bitLen_bl hx] at h
  refine Does.of (nt := 6) Tryd.func112 rfl rfl rfl (by simp) ?_
  simp only [argTm, PV.ext, Ce.ext]
  refine Do.seqk fun _ k1_ => ?_
  refine Do.region [0] true ?_
  simp [go_sem]
  apply k1_; clear k1_
  refine Do.seqk fun _ k2_ => ?_
  refine Do.region [2] true ?_
  simp [go_sem]
  refine DoL.call true 102 rfl rfl rfl rfl (by first | exact trivial | omega | (simp; done) | (simp; omega)) (h) rfl (by first | exact .inl rfl | exact .inr rfl) rfl ?_
  simp [go_sem]
  repeat (refine And.intro (by first | omega | (intros; omega) | grind) ?_)
  apply k2_; clear k2_
  refine Do.ret ?_
  simp [endQ, rets, ret1, go_sem]
  repeat (refine And.intro (by first | omega | (intros; omega) | grind) ?_)
  exact TLe.refl _
theorem norm_word {y s : Nat} (h0 : 0 < y) (hs : s = 64 - bl y) (hy : y < 18446744073709551616) : y * 2 ^ s < 18446744073709551616 ∧ 9223372036854775808 ≤ y * 2 ^ s := by
  have hb := bl_word hy
  have hp := bl_pos h0
  have h1 := bl_self y
  have h2 := (bl_le y (bl y - 1)).1 (by omega)
  have h3 : y * 2 ^ s < 2 ^ bl y * 2 ^ s := Nat.mul_lt_mul_of_pos_right h1 (Nat.pow_pos (by decide))
  have h4 : 2 ^ (bl y - 1) * 2 ^ s ≤ y * 2 ^ s := Nat.mul_le_mul_right _ h2
  rw [← Nat.pow_add] at h3 h4
  rw [show bl y + s = 64 by omega] at h3
  rw [show bl y - 1 + s = 63 by omega] at h4
  exact ⟨h3, h4⟩
end Go.Proofs.YtokgalpflooegaaDoor
/- Division of two words by one: the walk. No condition. -/
namespace Go.Proofs.YtokgalpflooegaaDoor
set_option linter.unusedVariables false
set_option linter.unusedSimpArgs false
variable {G : Gl}
set_option maxHeartbeats 8000000
set_option maxRecDepth 10000
theorem div_parts {hi lo y s : Nat} (hs : s ≤ 64) (hl : lo < 18446744073709551616) (hh : hi < y) (n1 : y * 2 ^ s < 18446744073709551616) (n2 : 9223372036854775808 ≤ y * 2 ^ s) :
    ∃ D v1 v0 A U c1 c0, y * 2 ^ s % M64 = D ∧ D / 4294967296 = v1 ∧ D &&& 4294967295 = v0 ∧ (hi * 2 ^ s % M64) ||| (lo / 2 ^ (64 - s)) = A ∧ lo * 2 ^ s % M64 = U ∧ U / 4294967296 = c1 ∧ U &&& 4294967295 = c0 ∧
    D = v1 * 4294967296 + v0 ∧ 2147483648 ≤ v1 ∧ v1 < 4294967296 ∧ v0 < 4294967296 ∧ c1 < 4294967296 ∧ c0 < 4294967296 ∧ A < D ∧ U < M64 ∧ D = y * 2 ^ s ∧ (A * 4294967296 + c1) * 4294967296 + c0 = (hi * 18446744073709551616 + lo) * 2 ^ s := by
  have hP : 2 ^ (64 - s) * 2 ^ s = 18446744073709551616 := by rw [← Nat.pow_add, show 64 - s + s = 64 by omega]
  have hp1 : 0 < 2 ^ s := Nat.pow_pos (by decide)
  have hp2 : 0 < 2 ^ (64 - s) := Nat.pow_pos (by decide)
  have hhs : (hi + 1) * 2 ^ s ≤ y * 2 ^ s := Nat.mul_le_mul_right _ hh
  have hlq : lo / 2 ^ (64 - s) < 2 ^ s := by rw [Nat.div_lt_iff_lt_mul hp2, Nat.mul_comm, hP]; exact hl
  have e1 : hi * 2 ^ s % M64 = hi * 2 ^ s := Nat.mod_eq_of_lt (by unfold M64; rw [Nat.add_mul] at hhs; omega)
  have e2 : (hi * 2 ^ s % M64) ||| (lo / 2 ^ (64 - s)) = lo / 2 ^ (64 - s) + hi * 2 ^ s := by
    rw [e1, Nat.or_comm, or_add hlq (Nat.mul_mod_left _ _)]
  have e3 : lo * 2 ^ s % M64 = lo % 2 ^ (64 - s) * 2 ^ s := by
    have h1 : lo * 2 ^ s = lo % 2 ^ (64 - s) * 2 ^ s + lo / 2 ^ (64 - s) * 18446744073709551616 := by
      rw [← hP, ← Nat.mul_assoc, ← Nat.add_mul, Nat.mul_comm (lo / _), Nat.mod_add_div]
    have h2 : lo % 2 ^ (64 - s) * 2 ^ s < 2 ^ (64 - s) * 2 ^ s := Nat.mul_lt_mul_of_pos_right (Nat.mod_lt _ hp2) hp1
    rw [hP] at h2
    rw [h1]
    unfold M64
    omega
  refine ⟨_, _, _, _, _, _, _, rfl, rfl, rfl, rfl, rfl, rfl, rfl, ?_⟩
  rw [e2, mask32, mask32, Nat.mod_eq_of_lt (show y * 2 ^ s < M64 from n1)]
  have e4 : lo * 2 ^ s % M64 < M64 := Nat.mod_lt _ (by decide)
  refine ⟨by omega, by omega, by omega, by omega, by unfold M64 at e4 ⊢; omega, by omega, ?_, e4, rfl, ?_⟩
  · rw [Nat.add_mul] at hhs; omega
  · rw [e3]
    have h3 : (hi * 18446744073709551616 + lo) * 2 ^ s = hi * 2 ^ s * 18446744073709551616 + lo * 2 ^ s := by rw [Nat.add_mul, Nat.mul_right_comm]
    have h1 : lo * 2 ^ s = lo % 2 ^ (64 - s) * 2 ^ s + lo / 2 ^ (64 - s) * 18446744073709551616 := by
      rw [← hP, ← Nat.mul_assoc, ← Nat.add_mul, Nat.mul_comm (lo / _), Nat.mod_add_div]
    rw [h3, h1]
    generalize lo % 2 ^ (64 - s) * 2 ^ s = u at *
    generalize lo / 2 ^ (64 - s) = w at *
    generalize hi * 2 ^ s = x at *
    omega
theorem cond_yes {q rh v0 c : Nat} (hr : rh < 4294967296) (h0 : v0 < 4294967296) (hc : c < 4294967296) (g : 4294967296 ≤ q ∨ (4294967296 * rh + c) % M64 < q * v0 % M64) : 4294967296 ≤ q ∨ rh * 4294967296 + c < q * v0 := by
  rcases g with g | g
  · exact .inl g
  · by_cases hq : 4294967296 ≤ q
    · exact .inl hq
    · refine .inr ?_
      have h1 : q * v0 ≤ 4294967295 * 4294967295 := Nat.mul_le_mul (by omega) (by omega)
      unfold M64 at g
      generalize q * v0 = w at *
      omega
theorem cond_no {q rh v0 c : Nat} (hr : rh < 4294967296) (h0 : v0 < 4294967296) (hc : c < 4294967296) (g : q < 4294967296 ∧ q * v0 % M64 ≤ (4294967296 * rh + c) % M64) : q * v0 ≤ rh * 4294967296 + c := by
  obtain ⟨g1, g2⟩ := g
  have h1 : q * v0 ≤ 4294967295 * 4294967295 := Nat.mul_le_mul (by omega) (by omega)
  unfold M64 at g2
  generalize q * v0 = w at *
  omega
theorem start_r {A v1 : Nat} (h : 0 < v1) (h2 : v1 < 4294967296) : A - A / v1 * v1 < 4294967296 := by
  have h := Nat.mod_lt A h
  rw [Nat.mul_comm, ← Nat.mod_eq_sub_mul_div]
  exact Nat.lt_trans h h2
theorem Div64_big {hi lo y : Nat} (h00 : 0 < hi) (hl : lo < 18446744073709551616) (hy : y < 18446744073709551616) (hh : hi < y) : Does Tryd.prog G 124 [.c (.n hi), .c (.n lo), .c (.n y)] (.t [.c (.n ((hi * 18446744073709551616 + lo) / y)), .c (.n ((hi * 18446744073709551616 + lo) % y))]) := by
  obtain ⟨s, hs⟩ : ∃ s, s = 64 - bl y := ⟨_, rfl⟩
  have hL := @Lz_does G y hy
  have hb := bl_word hy
  have hp := bl_pos (show 0 < y by omega)
  obtain ⟨n1, n2⟩ := norm_word (by omega) hs hy
  have hy0 : ¬ y = 0 := by omega
  have hy1 : ¬ y ≤ hi := by omega
  have hi0 : ¬ hi = 0 := by omega
  rw [show (64 - (bl y : Int)) = s by omega] at hL
  obtain ⟨D, v1, v0, A, U, c1, c0, f1, f2, f3, f4, f5, f6, f7, hD, hv1, hv2, hv0, hc1, hc0, hA, hU, hDy, hN⟩ := div_parts (show s ≤ 64 by omega) hl hh n1 n2
  have g1 : s ≤ 64 := by omega
  have g2 : lo < M64 := hl
  have g3 : hi * 2 ^ s % M64 < M64 := Nat.mod_lt _ (by decide)
  have g4 : lo / 2 ^ (64 - s) < M64 := Nat.lt_of_le_of_lt (Nat.div_le_self _ _) hl
  have g5 : D < M64 := by unfold M64; omega
  have g6 : 0 < v1 := by omega
  have g7 : A < M64 := by omega
  have g8 := Nat.div_mul_le_self A v1
  have g9 : A / v1 * v1 < M64 := by omega
  have e18 : ((A * 4294967296 + c1) * 4294967296 + c0) / D = (hi * 18446744073709551616 + lo) / y := by
    rw [hN, hDy, Nat.mul_div_mul_right _ _ (Nat.pow_pos (by decide))]
  have e19 : ((A * 4294967296 + c1) * 4294967296 + c0) % D / 2 ^ s = (hi * 18446744073709551616 + lo) % y := by
    rw [hN, hDy, Nat.mul_mod_mul_right, Nat.mul_div_cancel _ (Nat.pow_pos (by decide))]
  have st1 := HalfI.start hv1 hv0 (hD ▸ hA) hc1
  have st1r := @start_r A v1 g6 hv2
  obtain ⟨H1, H2⟩ := @halves (A * 4294967296 + c1) c0 D (by omega)
  have hRD := Nat.mod_lt (A * 4294967296 + c1) (show 0 < D by omega)
  have hQB := half_q hA hc1
  have hdm := Nat.div_add_mod (A * 4294967296 + c1) D
  rw [← e18, ← e19, H1, H2]
  rw [Nat.mul_comm] at hdm
  clear e18 e19 H1 H2 hN
  obtain ⟨Q, hQ⟩ : ∃ Q, (A * 4294967296 + c1) / D = Q := ⟨_, rfl⟩
  obtain ⟨R, hR'⟩ : ∃ R, (A * 4294967296 + c1) % D = R := ⟨_, rfl⟩
  rw [hQ, hR'] at hdm
  rw [hR'] at hRD
  rw [hQ] at hQB
  rw [hQ, hR']
  have hR : R < D := hRD
  have st2 := HalfI.start hv1 hv0 (hD ▸ hR) hc0
  have st2r := @start_r R v1 g6 hv2
  have hRD0 := Nat.mod_lt (R * 4294967296 + c0) (show 0 < D by omega)
  have hQB0 := half_q hR hc0
  have hdm0 := Nat.div_add_mod (R * 4294967296 + c0) D
  rw [Nat.mul_comm] at hdm0
  obtain ⟨Q0, hQ0⟩ : ∃ Q0, (R * 4294967296 + c0) / D = Q0 := ⟨_, rfl⟩
  obtain ⟨R0, hR0⟩ : ∃ R0, (R * 4294967296 + c0) % D = R0 := ⟨_, rfl⟩
  rw [hQ0, hR0] at hdm0
  rw [hR0] at hRD0
  rw [hQ0] at hQB0
  rw [hQ0, hR0]
  have h21 := take_off hdm.symm (show R < M64 by omega)
  have h28 := take_off hdm0.symm (show R0 < M64 by omega)
  have h27 : (Q * 4294967296 + Q0) % M64 = Q * 4294967296 + Q0 := two_lim hQB hQB0
  have g10 : R < M64 := by omega
  have g11 := Nat.div_mul_le_self R v1
  have g12 : R / v1 * v1 < M64 := by omega
  have g13 : R0 < M64 := by omega
  have g14 : Q * D % M64 ≤ M64 := Nat.le_of_lt (Nat.mod_lt _ (by decide))
  have g15 : Q0 * D % M64 ≤ M64 := Nat.le_of_lt (Nat.mod_lt _ (by decide))
  refine Does.of (nt := 135) Tryd.func124 rfl rfl rfl (by simp) ?_
  simp only [argTm, PV.ext, Ce.ext]
  refine Do.seqk fun _ k1_ => ?_
  refine Do.region [0,1,2] true ?_
  simp [go_sem, hy0, hy1, hi0, g1, g2, g3, g4, g5, g6, g7, g8, g9, f1, f2, f3, f4, f5, f6, f7, hU]
  apply k1_; clear k1_
  refine Do.seqk fun _ k2_ => ?_
  refine Do.seqk fun _ k3_ => ?_
  refine Do.region [0,1,2,20] true ?_
  simp [go_sem, hy0, hy1, hi0, g1, g2, g3, g4, g5, g6, g7, g8, g9, f1, f2, f3, f4, f5, f6, f7, hU]
  apply k3_; clear k3_
  refine Do.cond [0,1,2] rfl (fun h1 => ?_) (fun h1 => ?_) <;> simp [go_sem, hy0, hy1, hi0, g1, g2, g3, g4, g5, g6, g7, g8, g9, f1, f2, f3, f4, f5, f6, f7, hU] at h1 ⊢
  refine Do.skip ?_
  simp [go_sem]
  apply k2_; clear k2_
  refine Do.seqk fun _ k4_ => ?_
  refine Do.seqk fun _ k5_ => ?_
  refine Do.region [0,1,2,24] true ?_
  simp [go_sem, hy0, hy1, hi0, g1, g2, g3, g4, g5, g6, g7, g8, g9, f1, f2, f3, f4, f5, f6, f7, hU]
  apply k5_; clear k5_
  refine Do.cond [0,1,2] rfl (fun h2 => ?_) (fun h2 => ?_) <;> simp [go_sem, hy0, hy1, hi0, g1, g2, g3, g4, g5, g6, g7, g8, g9, f1, f2, f3, f4, f5, f6, f7, hU] at h2 ⊢
  refine Do.skip ?_
  simp [go_sem]
  apply k4_; clear k4_
  refine Do.seqk fun _ k6_ => ?_
  refine Do.seqk fun _ k7_ => ?_
  refine Do.region [0,1,2,27] true ?_
  simp [go_sem, hy0, hy1, hi0, g1, g2, g3, g4, g5, g6, g7, g8, g9, f1, f2, f3, f4, f5, f6, f7, hU]
  apply k7_; clear k7_
  refine Do.cond [0,1,2] rfl (fun h3 => ?_) (fun h3 => ?_) <;> simp [go_sem, hy0, hy1, hi0, g1, g2, g3, g4, g5, g6, g7, g8, g9, f1, f2, f3, f4, f5, f6, f7, hU] at h3 ⊢
  refine Do.skip ?_
  simp [go_sem]
  apply k6_; clear k6_
  refine Do.seqk fun _ k8_ => ?_
  refine Do.region [0,1,2,8] true ?_
  simp [go_sem, hy0, hy1, hi0, g1, g2, g3, g4, g5, g6, g7, g8, g9, f1, f2, f3, f4, f5, f6, f7, hU]
  refine DoL.call true 702 rfl rfl rfl rfl (by first | exact trivial | omega | (simp; done) | (simp; omega)) (hL) rfl (by first | exact .inl rfl | exact .inr rfl) rfl ?_
  simp [go_sem, hy0, hy1, hi0, g1, g2, g3, g4, g5, g6, g7, g8, g9, f1, f2, f3, f4, f5, f6, f7, hU]
  repeat (refine And.intro (by first | omega | (intros; omega) | grind) ?_)
  apply k8_; clear k8_
  refine Do.seqk fun _ k9_ => ?_
  refine Do.region [0,1,2,8] true ?_
  simp [go_sem, hy0, hy1, hi0, g1, g2, g3, g4, g5, g6, g7, g8, g9, f1, f2, f3, f4, f5, f6, f7, hU]
  repeat (refine And.intro (by first | omega | (intros; omega) | grind) ?_)
  apply k9_; clear k9_
  refine Do.seqk fun _ k10_ => ?_
  refine Do.region [0,1,2,8,9] true ?_
  simp [go_sem, hy0, hy1, hi0, g1, g2, g3, g4, g5, g6, g7, g8, g9, f1, f2, f3, f4, f5, f6, f7, hU]
  repeat (refine And.intro (by first | omega | (intros; omega) | grind) ?_)
  apply k10_; clear k10_
  refine Do.seqk fun _ k11_ => ?_
  refine Do.region [0,1,2,8,9,10] true ?_
  simp [go_sem, hy0, hy1, hi0, g1, g2, g3, g4, g5, g6, g7, g8, g9, f1, f2, f3, f4, f5, f6, f7, hU]
  apply k11_; clear k11_
  refine Do.seqk fun _ k12_ => ?_
  refine Do.region [1,2,8,9,10,11] true ?_
  simp [go_sem, hy0, hy1, hi0, g1, g2, g3, g4, g5, g6, g7, g8, g9, f1, f2, f3, f4, f5, f6, f7, hU]
  repeat (refine And.intro (by first | omega | (intros; omega) | grind) ?_)
  apply k12_; clear k12_
  refine Do.seqk fun _ k13_ => ?_
  refine Do.region [2,8,9,10,11,12] true ?_
  simp [go_sem, hy0, hy1, hi0, g1, g2, g3, g4, g5, g6, g7, g8, g9, f1, f2, f3, f4, f5, f6, f7, hU]
  repeat (refine And.intro (by first | omega | (intros; omega) | grind) ?_)
  apply k13_; clear k13_
  refine Do.seqk fun _ k14_ => ?_
  refine Do.region [2,8,9,10,11,12,13] true ?_
  simp [go_sem, hy0, hy1, hi0, g1, g2, g3, g4, g5, g6, g7, g8, g9, f1, f2, f3, f4, f5, f6, f7, hU]
  repeat (refine And.intro (by first | omega | (intros; omega) | grind) ?_)
  apply k14_; clear k14_
  refine Do.seqk fun _ k15_ => ?_
  refine Do.region [2,8,9,10,11,13,14] true ?_
  simp [go_sem, hy0, hy1, hi0, g1, g2, g3, g4, g5, g6, g7, g8, g9, f1, f2, f3, f4, f5, f6, f7, hU]
  apply k15_; clear k15_
  refine Do.seqk fun _ k16_ => ?_
  refine Do.region [2,8,9,10,11,13,14,15] true ?_
  simp [go_sem, hy0, hy1, hi0, g1, g2, g3, g4, g5, g6, g7, g8, g9, f1, f2, f3, f4, f5, f6, f7, hU]
  repeat (refine And.intro (by first | omega | (intros; omega) | grind) ?_)
  apply k16_; clear k16_
  refine Do.seqk fun _ k17_ => ?_
  refine Do.region [2,8,9,10,11,13,14,15,16] true ?_
  simp [go_sem, hy0, hy1, hi0, g1, g2, g3, g4, g5, g6, g7, g8, g9, f1, f2, f3, f4, f5, f6, f7, hU]
  repeat (refine And.intro (by first | omega | (intros; omega) | grind) ?_)
  apply k17_; clear k17_
  refine Do.seqk fun _ k18_ => ?_
  refine Do.block ?_
  refine Do.loopF [2,8,9,10,11,13,14,15,16] (fun (t : Nat × Nat) => [(15, .v (.c (.n t.1))), (16, .v (.c (.n t.2)))]) (fun (t : Nat × Nat) => []) (fun (t : Nat × Nat) => HalfI A c1 v1 v0 t.1 t.2 ∧ t.2 < 4294967296) (fun (t : Nat × Nat) => t.1) ((A / v1, A - A / v1 * v1)) (fun _ => by first | (simp [go_sem, mixS]; done) | (simp [go_sem, mixS]; rfl)) (St.le_of (by first | rfl | simp [keep]) (by first | rfl | simp [keep])) (⟨st1, st1r⟩) ?_
  rintro ⟨qa, ra⟩ ⟨hIa, hra⟩
  simp only at hIa hra
  refine Do.seqk fun _ k19_ => ?_
  refine Do.seqk fun _ k20_ => ?_
  refine Do.region [2,8,9,10,11,13,14,15,16,78] false ?_
  simp [go_sem, hy0, hy1, hi0, g1, g2, g3, g4, g5, g6, g7, g8, g9, f1, f2, f3, f4, f5, f6, f7, hU]
  repeat (refine And.intro (by first | omega | (intros; omega) | grind) ?_)
  apply k20_; clear k20_
  refine Do.cond [2,8,9,10,11,13,14,15,16] rfl (fun ga => ?_) (fun ga => ?_) <;> simp [go_sem, hy0, hy1, hi0, g1, g2, g3, g4, g5, g6, g7, g8, g9, f1, f2, f3, f4, f5, f6, f7, hU] at ga ⊢
  · obtain ⟨da, ia⟩ := hIa.dec (hD ▸ hA) hc1 (cond_yes hra hv0 hc1 ga)
    have la := hIa.le
    have ma : ra + v1 < M64 := by unfold M64; omega
    have na : qa < M64 := by unfold M64; omega
    refine Do.skip ?_
    simp [go_sem]
    apply k19_; clear k19_
    refine Do.block ?_
    refine Do.seqk fun _ k21_ => ?_
    refine Do.region [2,8,9,10,11,13,14,15,16] true ?_
    simp [go_sem, da, ma, na]
    repeat (refine And.intro (by first | omega | (intros; omega) | grind) ?_)
    apply k21_; clear k21_
    refine Do.seqk fun _ k22_ => ?_
    refine Do.region [2,8,9,10,11,13,14,15,16] true ?_
    simp [go_sem, da, ma, na]
    repeat (refine And.intro (by first | omega | (intros; omega) | grind) ?_)
    apply k22_; clear k22_
    refine Do.seqk fun _ k23_ => ?_
    refine Do.region [2,8,9,10,11,13,14,15,16,85] true ?_
    simp [go_sem, da, ma, na]
    apply k23_; clear k23_
    refine Do.cond [2,8,9,10,11,13,14,15,16] rfl (fun ba => ?_) (fun ba => ?_) <;> simp [go_sem, da, ma, na] at ba ⊢
    · have ea : qa - 1 = Q := by rw [ia.brk g6 hv0 (by omega) ba, ← hD]; exact hQ
      skip
      refine Do.exit ?_
      simp [go_sem]
      apply k18_; clear k18_
      refine Do.seqk fun _ k24_ => ?_
      refine Do.region [2,8,9,10,14,15,17] false ?_
      simp [go_sem, ea, h21, h28, h27, g5, g6, g10, g11, g12, g13, g14, g15]
      repeat (refine And.intro (by first | omega | (intros; omega) | grind) ?_)
      apply k24_; clear k24_
      refine Do.seqk fun _ k25_ => ?_
      refine Do.region [2,8,9,10,14,15,17,18] true ?_
      simp [go_sem, ea, h21, h28, h27, g5, g6, g10, g11, g12, g13, g14, g15]
      repeat (refine And.intro (by first | omega | (intros; omega) | grind) ?_)
      apply k25_; clear k25_
      refine Do.seqk fun _ k26_ => ?_
      refine Do.region [2,8,9,10,14,15,16,17,18] true ?_
      simp [go_sem, ea, h21, h28, h27, g5, g6, g10, g11, g12, g13, g14, g15]
      repeat (refine And.intro (by first | omega | (intros; omega) | grind) ?_)
      apply k26_; clear k26_
      refine Do.seqk fun _ k27_ => ?_
      refine Do.block ?_
      refine Do.loopF [2,8,9,10,14,15,16,17,18] (fun (w : Nat × Nat) => [(16, .v (.c (.n w.2))), (18, .v (.c (.n w.1)))]) (fun (w : Nat × Nat) => []) (fun (w : Nat × Nat) => HalfI R c0 v1 v0 w.1 w.2 ∧ w.2 < 4294967296) (fun (w : Nat × Nat) => w.1) ((R / v1, R - R / v1 * v1)) (fun _ => by first | (simp [go_sem, mixS]; done) | (simp [go_sem, mixS]; rfl)) (St.le_of (by first | rfl | simp [keep]) (by first | rfl | simp [keep])) (⟨st2, st2r⟩) ?_
      rintro ⟨qb, rb⟩ ⟨hIb, hrb⟩
      simp only at hIb hrb
      refine Do.seqk fun _ k28_ => ?_
      refine Do.seqk fun _ k29_ => ?_
      refine Do.region [2,8,9,10,14,15,16,17,18,113] false ?_
      simp [go_sem, ea, h21, h28, h27, g5, g6, g10, g11, g12, g13, g14, g15]
      repeat (refine And.intro (by first | omega | (intros; omega) | grind) ?_)
      apply k29_; clear k29_
      refine Do.cond [2,8,9,10,14,15,16,17,18] rfl (fun gb => ?_) (fun gb => ?_) <;> simp [go_sem, ea, h21, h28, h27, g5, g6, g10, g11, g12, g13, g14, g15] at gb ⊢
      · obtain ⟨db, ib⟩ := hIb.dec (hD ▸ hR) hc0 (cond_yes hrb hv0 hc0 gb)
        have lb := hIb.le
        have mb : rb + v1 < M64 := by unfold M64; omega
        have nb : qb < M64 := by unfold M64; omega
        refine Do.skip ?_
        simp [go_sem]
        apply k28_; clear k28_
        refine Do.block ?_
        refine Do.seqk fun _ k30_ => ?_
        refine Do.region [2,8,9,10,14,15,16,17,18] true ?_
        simp [go_sem, db, mb, nb]
        repeat (refine And.intro (by first | omega | (intros; omega) | grind) ?_)
        apply k30_; clear k30_
        refine Do.seqk fun _ k31_ => ?_
        refine Do.region [2,8,9,10,14,15,16,17,18] true ?_
        simp [go_sem, db, mb, nb]
        repeat (refine And.intro (by first | omega | (intros; omega) | grind) ?_)
        apply k31_; clear k31_
        refine Do.seqk fun _ k32_ => ?_
        refine Do.region [2,8,9,10,14,15,16,17,18,120] true ?_
        simp [go_sem, db, mb, nb]
        apply k32_; clear k32_
        refine Do.cond [2,8,9,10,14,15,16,17,18] rfl (fun bb => ?_) (fun bb => ?_) <;> simp [go_sem, db, mb, nb] at bb ⊢
        · have eb : qb - 1 = Q0 := by rw [ib.brk g6 hv0 (by omega) bb, ← hD]; exact hQ0
          refine Do.exit ?_
          simp [go_sem]
          apply k27_; clear k27_
          refine Do.seqk fun _ k33_ => ?_
          refine Do.region [6,7] false ?_
          simp [go_sem, eb, h21, h28, h27, g5, g6, g10, g11, g12, g13, g14, g15]
          repeat (refine And.intro (by first | omega | (intros; omega) | grind) ?_)
          apply k33_; clear k33_
          refine Do.ret ?_
          simp [endQ, rets, ret1, go_sem, eb, h21, h28, h27, g5, g6, g10, g11, g12, g13, g14, g15]
          repeat (refine And.intro (by first | omega | (intros; omega) | grind) ?_)
          exact TLe.refl _
        · refine Do.skip ?_
          simp [go_sem]
          refine ⟨(qb - 1, rb + v1), St.le_of (by simp [keep]) rfl, ⟨ib, by omega⟩, by simp; omega⟩
      · have eb : qb = Q0 := by rw [hIb.fin g6 (cond_no hrb hv0 hc0 gb), ← hD]; exact hQ0
        refine Do.exit ?_
        simp [go_sem]
        apply k27_; clear k27_
        refine Do.seqk fun _ k34_ => ?_
        refine Do.region [6,7] false ?_
        simp [go_sem, eb, h21, h28, h27, g5, g6, g10, g11, g12, g13, g14, g15]
        repeat (refine And.intro (by first | omega | (intros; omega) | grind) ?_)
        apply k34_; clear k34_
        refine Do.ret ?_
        simp [endQ, rets, ret1, go_sem, eb, h21, h28, h27, g5, g6, g10, g11, g12, g13, g14, g15]
        repeat (refine And.intro (by first | omega | (intros; omega) | grind) ?_)
        exact TLe.refl _
    · refine Do.skip ?_
      simp [go_sem]
      refine ⟨(qa - 1, ra + v1), St.le_of (by simp [keep]) rfl, ⟨ia, by omega⟩, by simp; omega⟩
  · have ea : qa = Q := by rw [hIa.fin g6 (cond_no hra hv0 hc1 ga), ← hD]; exact hQ
    skip
    refine Do.exit ?_
    simp [go_sem]
    apply k18_; clear k18_
    refine Do.seqk fun _ k35_ => ?_
    refine Do.region [2,8,9,10,14,15,17] false ?_
    simp [go_sem, ea, h21, h28, h27, g5, g6, g10, g11, g12, g13, g14, g15]
    repeat (refine And.intro (by first | omega | (intros; omega) | grind) ?_)
    apply k35_; clear k35_
    refine Do.seqk fun _ k36_ => ?_
    refine Do.region [2,8,9,10,14,15,17,18] true ?_
    simp [go_sem, ea, h21, h28, h27, g5, g6, g10, g11, g12, g13, g14, g15]
    repeat (refine And.intro (by first | omega | (intros; omega) | grind) ?_)
    apply k36_; clear k36_
    refine Do.seqk fun _ k37_ => ?_
    refine Do.region [2,8,9,10,14,15,16,17,18] true ?_
    simp [go_sem, ea, h21, h28, h27, g5, g6, g10, g11, g12, g13, g14, g15]
    repeat (refine And.intro (by first | omega | (intros; omega) | grind) ?_)
    apply k37_; clear k37_
    refine Do.seqk fun _ k38_ => ?_
    refine Do.block ?_
    refine Do.loopF [2,8,9,10,14,15,16,17,18] (fun (w : Nat × Nat) => [(16, .v (.c (.n w.2))), (18, .v (.c (.n w.1)))]) (fun (w : Nat × Nat) => []) (fun (w : Nat × Nat) => HalfI R c0 v1 v0 w.1 w.2 ∧ w.2 < 4294967296) (fun (w : Nat × Nat) => w.1) ((R / v1, R - R / v1 * v1)) (fun _ => by first | (simp [go_sem, mixS]; done) | (simp [go_sem, mixS]; rfl)) (St.le_of (by first | rfl | simp [keep]) (by first | rfl | simp [keep])) (⟨st2, st2r⟩) ?_
    rintro ⟨qb, rb⟩ ⟨hIb, hrb⟩
    simp only at hIb hrb
    refine Do.seqk fun _ k39_ => ?_
    refine Do.seqk fun _ k40_ => ?_
    refine Do.region [2,8,9,10,14,15,16,17,18,113] false ?_
    simp [go_sem, ea, h21, h28, h27, g5, g6, g10, g11, g12, g13, g14, g15]
    repeat (refine And.intro (by first | omega | (intros; omega) | grind) ?_)
    apply k40_; clear k40_
    refine Do.cond [2,8,9,10,14,15,16,17,18] rfl (fun gb => ?_) (fun gb => ?_) <;> simp [go_sem, ea, h21, h28, h27, g5, g6, g10, g11, g12, g13, g14, g15] at gb ⊢
    · obtain ⟨db, ib⟩ := hIb.dec (hD ▸ hR) hc0 (cond_yes hrb hv0 hc0 gb)
      have lb := hIb.le
      have mb : rb + v1 < M64 := by unfold M64; omega
      have nb : qb < M64 := by unfold M64; omega
      refine Do.skip ?_
      simp [go_sem]
      apply k39_; clear k39_
      refine Do.block ?_
      refine Do.seqk fun _ k41_ => ?_
      refine Do.region [2,8,9,10,14,15,16,17,18] true ?_
      simp [go_sem, db, mb, nb]
      repeat (refine And.intro (by first | omega | (intros; omega) | grind) ?_)
      apply k41_; clear k41_
      refine Do.seqk fun _ k42_ => ?_
      refine Do.region [2,8,9,10,14,15,16,17,18] true ?_
      simp [go_sem, db, mb, nb]
      repeat (refine And.intro (by first | omega | (intros; omega) | grind) ?_)
      apply k42_; clear k42_
      refine Do.seqk fun _ k43_ => ?_
      refine Do.region [2,8,9,10,14,15,16,17,18,120] true ?_
      simp [go_sem, db, mb, nb]
      apply k43_; clear k43_
      refine Do.cond [2,8,9,10,14,15,16,17,18] rfl (fun bb => ?_) (fun bb => ?_) <;> simp [go_sem, db, mb, nb] at bb ⊢
      · have eb : qb - 1 = Q0 := by rw [ib.brk g6 hv0 (by omega) bb, ← hD]; exact hQ0
        refine Do.exit ?_
        simp [go_sem]
        apply k38_; clear k38_
        refine Do.seqk fun _ k44_ => ?_
        refine Do.region [6,7] false ?_
        simp [go_sem, eb, h21, h28, h27, g5, g6, g10, g11, g12, g13, g14, g15]
        repeat (refine And.intro (by first | omega | (intros; omega) | grind) ?_)
        apply k44_; clear k44_
        refine Do.ret ?_
        simp [endQ, rets, ret1, go_sem, eb, h21, h28, h27, g5, g6, g10, g11, g12, g13, g14, g15]
        repeat (refine And.intro (by first | omega | (intros; omega) | grind) ?_)
        exact TLe.refl _
      · refine Do.skip ?_
        simp [go_sem]
        refine ⟨(qb - 1, rb + v1), St.le_of (by simp [keep]) rfl, ⟨ib, by omega⟩, by simp; omega⟩
    · have eb : qb = Q0 := by rw [hIb.fin g6 (cond_no hrb hv0 hc0 gb), ← hD]; exact hQ0
      refine Do.exit ?_
      simp [go_sem]
      apply k38_; clear k38_
      refine Do.seqk fun _ k45_ => ?_
      refine Do.region [6,7] false ?_
      simp [go_sem, eb, h21, h28, h27, g5, g6, g10, g11, g12, g13, g14, g15]
      repeat (refine And.intro (by first | omega | (intros; omega) | grind) ?_)
      apply k45_; clear k45_
      refine Do.ret ?_
      simp [endQ, rets, ret1, go_sem, eb, h21, h28, h27, g5, g6, g10, g11, g12, g13, g14, g15]
      repeat (refine And.intro (by first | omega | (intros; omega) | grind) ?_)
      exact TLe.refl _
theorem Div64_does {hi lo y : Nat} (hl : lo < 18446744073709551616) (hy : y < 18446744073709551616) (hh : hi < y) : Does Tryd.prog G 124 [.c (.n hi), .c (.n lo), .c (.n y)] (.t [.c (.n ((hi * 18446744073709551616 + lo) / y)), .c (.n ((hi * 18446744073709551616 + lo) % y))]) := by
  by_cases h : 0 < hi
  · exact Div64_big h hl hy hh
  · obtain rfl : hi = 0 := by omega
    rw [Nat.zero_mul, Nat.zero_add]
    exact Div64_low hl (by omega)
end Go.Proofs.YtokgalpflooegaaDoor
/- Functions that write words into a part of a row of their caller's. No condition. -/
namespace Go.Proofs.YtokgalpflooegaaDoor
set_option linter.unusedVariables false
set_option linter.unusedSimpArgs false
/-- Words that lie in a block. -/
def Win (W : World) (b : Nat) (l : List Nat) : Prop := ∃ (vs : Array Value) (e : TypeId), W.heap[b]? = some (.cells vs e (0, 0)) ∧ ∀ (i x : Nat), l[i]? = some x → vs[i]? = some (Value.int .u64 (x : Nat))
/-- Two worlds that differ in a block's cells alone. -/
structure Ex (b : Nat) (W W' : World) : Prop where
  os : W'.os = W.os
  tape : W'.tape = W.tape
  output : W'.output = W.output
  size : W'.heap.size = W.heap.size
  block : ∀ k, k ≠ b → W'.heap[k]? = W.heap[k]?
  shape : W'.shape? b = W.shape? b
theorem Ex.refl (b : Nat) (W : World) : Ex b W W := ⟨rfl, rfl, rfl, rfl, fun _ _ => rfl, rfl⟩
theorem Ex.trans {b : Nat} {W1 W2 W3 : World} (h : Ex b W1 W2) (k : Ex b W2 W3) : Ex b W1 W3 :=
  ⟨k.os.trans h.os, k.tape.trans h.tape, k.output.trans h.output, k.size.trans h.size, fun c hc => (k.block c hc).trans (h.block c hc), k.shape.trans h.shape⟩
theorem Ex.setRow {b : Nat} {W : World} {old vs : Array Value} {e : TypeId} (hh : W.heap[b]? = some (.cells old e (0, 0))) (hs : vs.size = old.size) : Ex b W (W.setRow b vs) :=
  ⟨rfl, rfl, rfl, by simp, fun k hk => setRow_other W b k vs hk, by simp [World.shape?, setRow_heap W b old vs e (0, 0) hh, hh, hs]⟩
def Cx.at (cx : Cx) (W0 : World) : Cx := ⟨cx.B, W0, cx.okIn, cx.bo, cx.nt⟩
/-- A block of somebody else's. -/
structure Fr (G : Gl) (cx : Cx) (b : Nat) : Prop where
  bo : ∀ k, ¬ cx.bo k
  lt : b < cx.B
  no : ¬ cx.okIn b
  gl : ∀ (k off : Nat) (x : Ce), (G k)[off]? = some x → k ≠ b
/-- A part of the block, as a slice. -/
def winS (b off n : Nat) : Sx := ⟨fun _ _ v => ∃ cap, v = .slice (some ⟨b, off, none⟩) n cap, fun _ _ _ h => by obtain ⟨_, h⟩ := h; subst h; rfl, fun _ _ _ _ _ _ _ h => h⟩
/-- The address of one of its cells. -/
def ptrS (b c : Nat) : Sx := ⟨fun _ _ v => v = .pointer (some ⟨b, c, none⟩), fun _ _ _ h => by subst h; rfl, fun _ _ _ _ _ _ _ h => h⟩
/-- What a piece of code does that writes into the block, too. -/
def DoX (P : Program) (G : Gl) (nt b : Nat) (c : Code) (st : St) (l : List Nat) (Q : Exit → St → List Nat → Prop) : Prop :=
  ∀ (cx : Cx) (a : Act) (W : World), cx.nt = nt → Fr G cx b → Rel G cx st a W → Win W b l → c.wp P (fun e a' W' => ∃ W0 st' l', Ex b cx.W0 W0 ∧ Q e st' l' ∧ Rel G (cx.at W0) st' a' W' ∧ Win W' b l') a W
def DoLX (P : Program) (G : Gl) (nt b : Nat) (ops : List Oper) (k : List Oper) (st : St) (l : List Nat) (Q : St → List Nat → Prop) : Prop :=
  ∀ (cx : Cx) (a : Act) (W : World), cx.nt = nt → Fr G cx b → Rel G cx st a W → Win W b l → ∀ Q' : Exit → Act → World → Prop, (∀ W0 st' l' a' W', Ex b cx.W0 W0 → Q st' l' → Rel G (cx.at W0) st' a' W' → Win W' b l' → Q' .normal a' W') → wpList P ops.toArray Q' k a W
def runsX (P : Program) (G : Gl) (nt b : Nat) (md : Bool) (ops : List Oper) (Q : St → List Nat → Prop) : Nat → List Oper → St → List Nat → Prop
  | _, [], st, l => Q st l
  | lab, o :: k, st, l => match stepO P G nt md ops lab st o with
    | some (p, st') => p ∧ runsX P G nt b md ops Q (lab + 1) k st' l
    | none => DoLX P G nt b ops (o :: k) st l Q
def thenX (K : St → List Nat → Prop) (Q : Exit → St → List Nat → Prop) : Exit → St → List Nat → Prop
  | .normal, s, l => K s l
  | e, s, l => Q e s l
def blockX (id : Nat) (Q : Exit → St → List Nat → Prop) : Exit → St → List Nat → Prop
  | .exit i, s, l => if i = id then Q .normal s l else Q (.exit i) s l
  | e, s, l => Q e s l
section
variable {P : Program} {G : Gl} {nt b : Nat} {st : St} {cx : Cx} {a a' : Act} {W W' : World} {m m' : Nat → Option Nat} {l : List Nat} {ops k : List Oper} {Q : St → List Nat → Prop} {QE : Exit → St → List Nat → Prop}
theorem win_keep {st' : St} (hf : Fr G cx b) (hr : Rel G cx st a W) (hr' : Rel G cx st' a' W') (h : Win W b l) : Win W' b l := by
  obtain ⟨_, hr⟩ := hr
  obtain ⟨_, hr'⟩ := hr'
  obtain ⟨vs, e, h1, h2⟩ := h
  exact ⟨vs, e, by rw [hr'.keep b hf.lt (hf.bo b), ← hr.keep b hf.lt (hf.bo b)]; exact h1, h2⟩
theorem Fr.at (hf : Fr G cx b) (W0 : World) : Fr G (cx.at W0) b := ⟨hf.bo, hf.lt, hf.no, hf.gl⟩
theorem RelM.swap (h : RelM G cx m st a W) (hf : Fr G cx b) {old vs : Array Value} {e : TypeId} (hh : W.heap[b]? = some (.cells old e (0, 0))) (hs : vs.size = old.size) : RelM G (cx.at (cx.W0.setRow b vs)) m st a (W.setRow b vs) := by
  have hh0 : cx.W0.heap[b]? = some (.cells old e (0, 0)) := by rw [← h.keep b hf.lt (hf.bo b)]; exact hh
  have hown : ∀ j o c, lk j st.ob = some o → m j = some c → c ≠ b := fun j o c hj hc e => by
    rcases (h.own j o c hj hc).2 with g | g
    · have := hf.lt; omega
    · exact hf.bo c g.1
  have hlab : ∀ c, W.heap[c]? ≠ none → c ≠ b → (W.setRow b vs).shape? c = W.shape? c := fun c _ hc => shape_of_heap (setRow_other W b c vs hc)
  have he : EnLe (fun _ => True) (en cx m st.ob W) (en (cx.at (cx.W0.setRow b vs)) m st.ob (W.setRow b vs)) := by
    refine ⟨fun c ⟨g1, g2, g3⟩ => ⟨g1, by simpa using g2, g3⟩, fun c ⟨g1, g2, g3⟩ => setRow_other W b c vs (fun e => ?_), Nat.le_refl _, fun j _ o ho => ⟨o, ho, rfl, rfl, Nat.le_refl _, fun _ => ⟨rfl, fun c hc => shape_of_heap (setRow_other W b c vs (hown j o c ho hc))⟩⟩⟩
    subst e
    rcases g1 with g1 | g1
    · exact hf.no g1
    · have := hf.lt; omega
  exact {
    size := by simpa [Cx.at] using h.size
    os := h.os
    tape := h.tape
    output := h.output
    keep := fun c hc hn => by
      by_cases hcb : c = b
      · subst hcb; rw [setRow_heap W c old vs e (0, 0) hh]; exact (setRow_heap cx.W0 c old vs e (0, 0) hh0).symm
      · rw [setRow_other W b c vs hcb]; exact (h.keep c hc hn).trans (setRow_other cx.W0 b c vs hcb).symm
    df := h.df
    nt := h.nt
    tm := fun t x hx => let ⟨v, hv, hr⟩ := h.tm t x hx; ⟨v, hv, RT.mono he (fun _ _ => trivial) hr⟩
    ob := fun j o hj => RO.mono he (fun _ _ => trivial) rfl (fun c hc => setRow_other W b c vs (hown j o c hj hc)) (h.ob j o hj)
    inj := h.inj
    own := fun j o c hj hc => by obtain ⟨g1, g2⟩ := h.own j o c hj hc; exact ⟨by simpa using g1, g2⟩
    gl := fun c off x hx => by
      obtain ⟨g1, g2, g3, v, g4, g5⟩ := h.gl c off x hx
      exact ⟨g1, g2, g3, v, (cell_setRow_other cx.W0 b vs ⟨c, off, none⟩ (hf.gl c off x hx)).trans g4, g5⟩
    okIn := h.okIn
    pin := fun o ho => by obtain ⟨_, c, _, g, _⟩ := h.pin o ho; exact (hf.bo c g).elim }
theorem DoX.lift {c : Code} (h : Do P G nt c st (fun e s => QE e s l)) : DoX P G nt b c st l QE := fun cx a W hn hf hr hw =>
  Code.wp_mono (fun e a' W' ⟨s, h1, h2⟩ => ⟨cx.W0, s, l, Ex.refl _ _, h1, h2, win_keep hf hr h2 hw⟩) (h cx a W hn hr)
theorem DoX.seqL {x y : Code} (h : Do P G nt x st (thenQ (fun s => DoX P G nt b y s l QE) (fun e s => QE e s l))) : DoX P G nt b (.seq x y) st l QE :=
  fun cx a W hn hf hr hw => wp_seq (Code.wp_mono (fun e a' W' ⟨s, h1, h2⟩ => by
    cases e with
    | normal => exact h1 cx a' W' hn hf h2 (win_keep hf hr h2 hw)
    | _ => exact ⟨cx.W0, s, l, Ex.refl _ _, h1, h2, win_keep hf hr h2 hw⟩) (h cx a W hn hr))
theorem DoX.seq {x y : Code} (h : DoX P G nt b x st l (thenX (fun s l' => DoX P G nt b y s l' QE) QE)) : DoX P G nt b (.seq x y) st l QE :=
  fun cx a W hn hf hr hw => wp_seq (Code.wp_mono (fun e a' W' ⟨W0, s, l', h0, h1, h2, h3⟩ => by
    cases e with
    | normal =>
      refine Code.wp_mono (fun e a2 W2 ⟨W0', s', l2, g0, g1, g2, g3⟩ => ⟨W0', s', l2, h0.trans g0, g1, g2, g3⟩) (h1 (cx.at W0) a' W' hn (hf.at W0) h2 h3)
    | _ => exact ⟨W0, s, l', h0, h1, h2, h3⟩) (h cx a W hn hf hr hw))
theorem DoX.le {c : Code} {s t : St} (hl : s.le t) (h : DoX P G nt b c s l QE) : DoX P G nt b c t l QE :=
  fun cx a W hn hf hr hw => h cx a W hn hf (hr.le hl) hw
theorem DoX.cond {c : Operand} {x y : Code} {t : Bool} (ks : List Nat) (hc : opv st.tm c = some (.v (.c (.b t)))) (ht : t = true → DoX P G nt b x (st.only ks) l QE) (hfl : t = false → DoX P G nt b y (st.only ks) l QE) : DoX P G nt b (.cond c x y) st l QE := by
  intro cx a W hn hf hr hw
  have hr' := hr
  obtain ⟨m, hm⟩ := hr
  have hv : a.eval c = .bool t := hm.opv hc
  exact wp_cond_split hv (fun e => ht e cx a W hn hf (Rel.le hr' (St.only_le ks st)) hw) (fun e => hfl e cx a W hn hf (Rel.le hr' (St.only_le ks st)) hw)
theorem DoX.block {id : Nat} {c : Code} (h : DoX P G nt b c st l (blockX id QE)) : DoX P G nt b (.block id c) st l QE :=
  fun cx a W hn hf hr hw => wp_block (Code.wp_mono (fun e a' W' ⟨W0, s, l', h0, h1, h2, h3⟩ => by
    cases e with
    | exit i =>
      simp only [blockX] at h1
      simp only [Exit.inBlock]
      split
      · rename_i hi; rw [if_pos hi] at h1; exact ⟨W0, s, l', h0, h1, h2, h3⟩
      · rename_i hi; rw [if_neg hi] at h1; exact ⟨W0, s, l', h0, h1, h2, h3⟩
    | _ => exact ⟨W0, s, l', h0, h1, h2, h3⟩) (h cx a W hn hf hr hw))
theorem DoX.loop {α : Type} {c : Code} (S : α → St) (L : α → List Nat) (I : α → Prop) (μ : α → Nat) (x : α) (h0 : (S x).le st) (hl : l = L x) (hI : I x)
    (hround : ∀ x, I x → DoX P G nt b c (S x) (L x) (thenX (fun s l' => ∃ y, (S y).le s ∧ l' = L y ∧ I y ∧ μ y < μ x) QE)) : DoX P G nt b (.loop c) st l QE := by
  subst hl
  intro cx a W hn hf hr hw bb k cs
  have key : ∀ n x, μ x = n → I x → ∀ W0 a W, Ex b cx.W0 W0 → Rel G (cx.at W0) (S x) a W → Win W b (L x) → ∃ e a' w', (∃ W0 st' l', Ex b cx.W0 W0 ∧ QE e st' l' ∧ Rel G (cx.at W0) st' a' w' ∧ Win w' b l') ∧ Arrives P (lone (bb.at a (.code c :: .inLoop c :: k)) cs W) bb k cs e a' w' := by
    intro n
    induction n using Nat.strongRecOn with
    | _ n ih =>
      intro x hx hI W0 a W hE hr hw
      obtain ⟨e, a₁, w₁, ⟨W1, s, l', g0, hq, hs, hw1⟩, harr⟩ := hround x hI (cx.at W0) a W hn (hf.at W0) hr hw bb (.inLoop c :: k) cs
      have hE1 := hE.trans g0
      have hs : Rel G (cx.at W1) s a₁ w₁ := hs
      cases e with
      | normal =>
        obtain ⟨y, h1, rfl, h2, h3⟩ := hq
        obtain ⟨e₂, a₂, w₂, hq₂, harr₂⟩ := ih (μ y) (hx ▸ h3) y rfl h2 W1 a₁ w₁ hE1 (hs.le h1) hw1
        exact ⟨e₂, a₂, w₂, hq₂, .of_steps (Steps.trans harr (.one step_inLoop)) harr₂⟩
      | exit id => exact ⟨_, a₁, w₁, ⟨W1, s, l', hE1, hq, hs, hw1⟩, .pass (x := .inLoop c) rfl (fun _ _ => .inl (by simp)) harr⟩
      | goto l => exact ⟨_, a₁, w₁, ⟨W1, s, l', hE1, hq, hs, hw1⟩, .pass (x := .inLoop c) rfl (fun _ _ => .inl (by simp)) harr⟩
      | ret => exact ⟨_, a₁, w₁, ⟨W1, s, l', hE1, hq, hs, hw1⟩, .pass (x := .inLoop c) rfl (fun _ _ => .inl (by simp)) harr⟩
      | panic ch => exact ⟨_, a₁, w₁, ⟨W1, s, l', hE1, hq, hs, hw1⟩, .pass (x := .inLoop c) rfl (fun _ _ => .inl (by simp)) harr⟩
      | outgrown => exact ⟨_, a₁, w₁, ⟨W1, s, l', hE1, hq, hs, hw1⟩, .pass (x := .inLoop c) rfl (fun _ _ => .inl (by simp)) harr⟩
  obtain ⟨e, a', w', hq, harr⟩ := key _ x rfl hI cx.W0 a W (Ex.refl _ _) (hr.le h0) hw
  exact ⟨e, a', w', hq, .of_steps (.one step_loop) harr⟩
theorem DoX.region0 {id : Nat} {k : List Oper} (ks : List Nat) (h : DoLX P G nt b k k st l (fun s l' => QE .normal (s.only ks) l')) : DoX P G nt b (.region id k.toArray false) st l QE :=
  fun cx a W hn hf hr hw => wp_region_lit (h cx a W hn hf hr hw _ fun W0 s l' a' W' h0 h1 h2 h3 => ⟨W0, _, l', h0, h1, h2.le (St.only_le ks s), h3⟩)
theorem DoLX.nil (h : Q st l) : DoLX P G nt b ops [] st l Q := fun cx a W hn hf hr hw Q' hQ => wpList_nil (hQ cx.W0 st l a W (Ex.refl _ _) h hr hw)
theorem DoLX.step {md : Bool} {lab : Nat} {o : Oper} {p : Prop} {st' : St} (h : stepO P G nt md ops lab st o = some (p, st')) (hp : p) (next : DoLX P G nt b ops k st' l Q) : DoLX P G nt b ops (o :: k) st l Q :=
  fun cx a W hn hf hr hw Q' hQ => wpList_step fun K hK => by
    obtain ⟨m, hr'⟩ := id hr
    exact step1_core h hp hn hr' Q' K fun a' W' hs => hK _ _ (next cx _ _ hn hf hs (win_keep hf hr hs hw) Q' hQ)
theorem DoLX.run {md : Bool} : ∀ {k : List Oper} {lab : Nat} {st : St}, runsX P G nt b md ops Q lab k st l → DoLX P G nt b ops k st l Q
  | [], lab, st, h => DoLX.nil h
  | o :: k, lab, st, h => by
    simp only [runsX] at h
    split at h
    · rename_i p st' he
      exact DoLX.step he h.1 (DoLX.run h.2)
    · exact h
theorem DoX.seqk {x y : Code} (h : ∀ K : St → List Nat → Prop, (∀ s l', DoX P G nt b y s l' QE → K s l') → DoX P G nt b x st l (thenX K QE)) : DoX P G nt b (.seq x y) st l QE := DoX.seq (h _ fun _ _ h => h)
theorem DoX.seqLk {x y : Code} (h : ∀ K : St → Prop, (∀ s, DoX P G nt b y s l QE → K s) → Do P G nt x st (thenQ K (fun e s => QE e s l))) : DoX P G nt b (.seq x y) st l QE := DoX.seqL (h _ fun _ h => h)
theorem DoX.skip (h : QE .normal st l) : DoX P G nt b .skip st l QE := DoX.lift (Do.skip h)
theorem DoX.ret (h : QE .ret st l) : DoX P G nt b .ret st l QE := DoX.lift (Do.ret h)
theorem DoX.exit {id : Nat} (h : QE (.exit id) st l) : DoX P G nt b (.exit id) st l QE := DoX.lift (Do.exit h)
theorem DoX.region {id : Nat} {k : List Oper} (ks : List Nat) (md : Bool) (h : runsX P G nt b md k (fun s l' => QE .normal (s.only ks) l') (id * 100) k st l) : DoX P G nt b (.region id k.toArray false) st l QE := DoX.region0 ks (DoLX.run h)
theorem wp_mono2 {o : Oper} {a : Act} {w : World} {K K' : Act → World → Prop} {Q Q' : Exit → Act → World → Prop} (h : ∀ a w, K a w → K' a w) (hq : ∀ e a w, e ≠ .normal → Q e a w → Q' e a w) (hh : o.wp P a w K Q) : o.wp P a w K' Q' := by
  unfold Oper.wp at *
  generalize (execOp a.eval o).run P w = r at *
  cases r with
  | ok n w' =>
    cases n <;> simp only [Oper.upon] at hh ⊢ <;>
      first
        | exact h _ _ hh
        | exact Calls.mono hh (fun e w'' he => by
            cases e with
            | returned v => exact h _ _ he
            | panicked c => exact hq _ _ _ (by simp) he
            | outgrown => obtain ⟨a2, w2, h2⟩ := he; exact ⟨a2, w2, hq _ _ _ (by simp) h2⟩)
        | exact Rows.mono hh (fun _ _ he => h _ _ he)
        | exact hh
  | halt x w' => cases x <;> simp only [Oper.upon] at hh ⊢ <;> first | exact hq _ _ _ (by simp) hh | exact hh
theorem wpList_app {Q Q1 : Exit → Act → World → Prop} {o : Array Oper} {k2 : List Oper} (hL : ∀ e a w, e ≠ .normal → Q1 e a w → Q e a w) (hn : ∀ a w, Q1 .normal a w → wpList P o Q k2 a w) : ∀ {k1 : List Oper} {a : Act} {w : World}, wpList P o Q1 k1 a w → wpList P o Q (k1 ++ k2) a w
  | [], a, w, h => hn a w h
  | x :: k1, a, w, h => by
    rw [List.cons_append]
    unfold wpList at h ⊢
    split
    · rename_i hw
      rw [if_pos hw] at h
      rcases h with h | ⟨h1, a2, w2, h2⟩
      · exact .inl (wp_mono2 (fun a w hh => wpList_app hL hn hh) hL h)
      · exact .inr ⟨h1, a2, w2, hL _ _ _ (by simp) h2⟩
    · rename_i hw
      rw [if_neg hw] at h
      exact wpList_app hL hn h
/-- Operations that do not write there. -/
theorem DoLX.app {k1 k2 : List Oper} {Q1 : St → Prop} (h : DoL P G nt ops k1 st Q1) (next : ∀ s, Q1 s → DoLX P G nt b ops k2 s l Q) : DoLX P G nt b ops (k1 ++ k2) st l Q := by
  intro cx a W hn hf hr hw Q' hQ
  refine wpList_app (Q1 := fun e a' W' => e = .normal ∧ ∃ s, Q1 s ∧ Rel G cx s a' W') (fun e a w he hh => absurd hh.1 he) (fun a' W' ⟨_, s, h1, h2⟩ => next s h1 cx a' W' hn hf h2 (win_keep hf hr h2 hw) Q' hQ) (h cx a W hn hr _ fun s a' W' h1 h2 => ⟨rfl, s, h1, h2⟩)
theorem DoLX.ix {o : Oper} (md : Bool) (lab : Nat) {t e : TypeId} {b1 z1 : Nat} {c1 : List Ce} {te : TI} {x i : Operand} {off n d : Nat} {i0 : Int} (hg : o.guard = none) (hop : o.op = .indexAddr t x i) (hd : o.dst = some d) (hdn : d < nt)
    (ht : tiOf P t = some ⟨b1, z1, c1, .slice e⟩) (he : tiOf P e = some te) (hsz : te.size = 1) (hx : opv st.tm x = some (.v (.c (.x (winS b off n))))) (hi : opv st.tm i = some (.v (.c (.i .i64 i0)))) (hp : 0 ≤ i0 ∧ i0 < n)
    (next : runsX P G nt b md ops Q lab k ⟨put d (.v (.c (.x (ptrS b (off + i0.toNat))))) st.tm, st.ob⟩ l) : DoLX P G nt b ops (o :: k) st l Q := by
  replace next := DoLX.run next
  intro cx a W hn hf hr hw Q' hQ
  obtain ⟨m, hm⟩ := hr
  refine wpList_plain hg fun K hK => ?_
  unfold Oper.wp
  obtain ⟨cap, hxv⟩ : ∃ cap, a.eval x = .slice (some ⟨b, off, none⟩) n cap := hm.opv hx
  have hiv : a.eval i = .int .i64 i0 := hm.opv hi
  obtain ⟨ii, z, dd, g1, g2, g3, g4, g5, g6, g7, g8⟩ := tiOf_spec he
  have hrun : (execOp a.eval o).run P W = .ok (.value (.pointer (some ⟨b, off + i0.toNat, none⟩))) W := by
    have : execOp a.eval o = (do pure (.value (← Instr.indexAt t (a.eval x) (a.eval i)))) := by unfold execOp; simp [hop]
    rw [this, hxv, hiv]
    simp [Instr.indexAt, asIntOf, underlying, tiOf_slice ht, hp.1, hp.2, sizeOf, typeInfo, g1, g3, hsz, addr_add0]
  rw [hrun]
  refine hK _ _ ?_
  rw [hd]
  exact next cx _ _ hn hf ⟨m, hm.slot (d := d) (by omega) (x := .v (.c (.x (ptrS b (off + i0.toNat))))) rfl⟩ hw Q' hQ
theorem DoLX.ld {o : Oper} (md : Bool) (lab : Nat) {t : TypeId} {ti : TI} {x : Operand} {c d w : Nat} (hg : o.guard = none) (hop : o.op = .load t x) (hd : o.dst = some d) (hdn : d < nt) (ht : tiOf P t = some ti) (hpart : partOf ti [.n w] = some (.v (.c (.n w))))
    (hx : opv st.tm x = some (.v (.c (.x (ptrS b c))))) (hw0 : l[c]? = some w) (next : runsX P G nt b md ops Q lab k ⟨put d (.v (.c (.n w))) st.tm, st.ob⟩ l) : DoLX P G nt b ops (o :: k) st l Q := by
  replace next := DoLX.run next
  intro cx a W hn hf hr hw Q' hQ
  obtain ⟨m, hm⟩ := hr
  refine wpList_plain hg fun K hK => ?_
  unfold Oper.wp
  have hxv : a.eval x = .pointer (some ⟨b, c, none⟩) := hm.opv hx
  obtain ⟨vs, e, h1, h2⟩ := id hw
  obtain ⟨u, h7, h8⟩ := part_run (P := P) (W := W) (E := en cx m st.ob W) (ad := ⟨b, c, none⟩) (us := [.int .u64 (w : Nat)]) ht (by
    intro q u hq
    cases q with
    | zero => simp at hq; subst hq; rw [addr_add0]; simp only [World.cell?]; rw [show W.heap[b]? = _ from h1]; simpa using h2 c w hw0
    | succ q => simp at hq) (.cons (show RC _ (.n w) _ from rfl) .nil) hpart
  have hrun : (execOp a.eval o).run P W = .ok (.value u) W := by
    have : execOp a.eval o = (do pure (.value (← Instr.loadAt t (a.eval x)))) := by unfold execOp; simp [hop]
    rw [this, hxv]; simp [h7]
  rw [hrun]
  refine hK _ _ ?_
  rw [hd]
  exact next cx _ _ hn hf ⟨m, hm.slot (by omega) h8⟩ hw Q' hQ
theorem DoLX.sto {o : Oper} (md : Bool) (lab : Nat) {t : TypeId} {ti : TI} {x y : Operand} {c w : Nat} (hg : o.guard = none) (hop : o.op = .store t x y) (hd : o.dst = none) (ht : tiOf P t = some ti) (hsz : ti.size = 1)
    (hx : opv st.tm x = some (.v (.c (.x (ptrS b c))))) (hy : opv st.tm y = some (.v (.c (.n w)))) (hc : c < l.length) (next : runsX P G nt b md ops Q lab k st (l.set c w)) : DoLX P G nt b ops (o :: k) st l Q := by
  replace next := DoLX.run next
  intro cx a W hn hf hr hw Q' hQ
  obtain ⟨m, hm⟩ := hr
  refine wpList_plain hg fun K hK => ?_
  unfold Oper.wp
  have hxv : a.eval x = .pointer (some ⟨b, c, none⟩) := hm.opv hx
  have hyv : a.eval y = .int .u64 (w : Nat) := hm.opv hy
  obtain ⟨vs, e, h1, h2⟩ := id hw
  have hcs : c < vs.size := (Array.getElem?_eq_some_iff.1 (h2 c _ (getD_some (d := 0) hc))).1
  have hrun0 := run_storeAt (P := P) (W := W) (y := .int .u64 (w : Nat)) ht (off := c) h1 (by simp [Value.cells, hsz]) (by omega) (by simp [Value.cells, Value.oneCell'])
  rw [hsz] at hrun0
  generalize hvs : (vs.toList.take c ++ (Value.int .u64 (w : Nat)).cells.toList ++ vs.toList.drop (c + 1)).toArray = vs' at hrun0
  have hvl : vs'.size = vs.size := by rw [← hvs]; simp [Value.cells]; omega
  have hrun : (execOp a.eval o).run P W = .ok .skip (W.setRow b vs') := by
    have : execOp a.eval o = (do Instr.storeAt t (a.eval x) (a.eval y); pure .skip) := by unfold execOp; simp [hop]
    rw [this, hxv, hyv]; simp [hrun0]
  rw [hrun]
  refine hK _ _ ?_
  rw [hd]
  have hW : Win (W.setRow b vs') b (l.set c w) := by
    refine ⟨vs', e, setRow_heap W b vs vs' e (0, 0) h1, fun q x hq => ?_⟩
    have hg := @seg_get vs.toList [Value.int .u64 (w : Nat)] c q (by simp; omega)
    rw [← hvs, List.getElem?_toArray, show (Value.int .u64 (w : Nat)).cells.toList = [Value.int .u64 (w : Nat)] from rfl]
    simp only [List.length_singleton] at hg
    rw [hg]
    by_cases hqc : q = c
    · subst hqc
      rw [List.getElem?_set_self hc] at hq
      injection hq with hq; subst hq
      simp
    · rw [List.getElem?_set_ne (Ne.symm hqc)] at hq
      rw [if_neg (by omega)]
      simpa using h2 q x hq
  have hh0 : cx.W0.heap[b]? = some (.cells vs e (0, 0)) := by rw [← hm.keep b hf.lt (hf.bo b)]; exact h1
  have hx0 := Ex.setRow hh0 hvl
  exact next (cx.at (cx.W0.setRow b vs')) _ _ hn (hf.at _) ⟨m, hm.swap hf h1 hvl⟩ hW Q' fun W0 s l' a' W' q0 q1 q2 q3 => hQ W0 s l' a' W' (hx0.trans q0) q1 q2 q3
theorem DoLX.call {o : Oper} {f : FuncId} {x : Operand} {az : Array Operand} {ts : Array TypeId} {p : Prop} {args : List PV} {pur : Bool} {ret : TV} (md : Bool) (lab : Nat) (hg : o.guard = none) (hop : o.op = .call { callee := .value x, args := az, argTypes := ts })
    (hx : opv st.tm x = some (.v (.c (.f f)))) (ha : argsOf st az.toList = some (p, args, pur)) (hp : p) (hD : Does P G f args ret) (hl : ret.labs = []) (hf : pur = false ∨ ret.fr = true) (hd : dstOk nt o.dst = true)
    (next : runsX P G nt b md ops Q lab k ⟨setv o.dst (some ret) st.tm, st.ob⟩ l) : DoLX P G nt b ops (o :: k) st l Q :=
  DoLX.app (k1 := [o]) (Q1 := fun s => s = ⟨setv o.dst (some ret) st.tm, st.ob⟩) (DoL.call md lab hg hop hx ha hp hD hl hf hd (by simp [runs])) (fun s h => h ▸ DoLX.run next)
end
attribute [go_sem] thenX blockX runsX
/-- What a call does to the words that its first argument is a part of; its result is a bool. -/
def DoesX (P : Program) (G : Gl) (f : FuncId) (off n : Nat) (l : List Nat) (args : List PV) (r : Bool) (l' : List Nat) : Prop :=
  ∀ (W : World) (ok : Nat → Prop) (vals : List Value) (b cap : Nat), (∀ c, ok c → c < W.heap.size) → GlOk G W → (∀ (k off : Nat) (x : Ce), (G k)[off]? = some x → k ≠ b) → ¬ ok b → Win W b l → All2 (RP (enA W ok)) args vals →
    (callFunc f (.slice (some ⟨b, off, none⟩) n cap :: vals).toArray).run P W = .ok (.enter f (.slice (some ⟨b, off, none⟩) n cap :: vals).toArray) W ∧ Calls P f (.slice (some ⟨b, off, none⟩) n cap :: vals).toArray W (fun en W' => en = .returned (.bool r) ∧ BelowX b W W' ∧ W'.shape? b = W.shape? b ∧ Win W' b l')
def endX (rs : List ResultVar) (r : Bool) (l' : List Nat) (e : Exit) (s : St) (l2 : List Nat) : Prop := (e = .ret ∨ e = .normal) ∧ l2 = l' ∧ match rs with
  | [.tmp t] => lk t s.tm = some (.v (.c (.b r)))
  | _ => False
theorem DoesX.of {P : Program} {G : Gl} {nt : Nat} {f : FuncId} {fn : Func} {c : Code} {off n : Nat} {l l' : List Nat} {args : List PV} {r : Bool} (hf : P.funcs[f]? = some fn) (hname : (fn.name == "runtime.NumGoroutine") = false) (hb : fn.body = some c) (hnt : fn.ntmps = nt) (hal : args.length < nt)
    (h : ∀ b, DoX P G nt b c ⟨(0, .v (.c (.x (winS b off n)))) :: argTm 1 args, []⟩ l (endX fn.results.toList r l')) : DoesX P G f off n l args r l' := by
  intro W ok vals b cap hok hgl hgb hnb hw hargs
  have hlt : b < W.heap.size := by obtain ⟨vs, e, h1, _⟩ := hw; exact lt_of_heap h1
  refine ⟨?_, ?_⟩
  · have hn' : fn.name ≠ "runtime.NumGoroutine" := by simpa using hname
    simp [callFunc, hf, hn', hb]
  · refine calls_of_wp hf hb ?_
    have hargs' : All2 (RP (enA W ok)) (.c (.x (winS b off n)) :: args) (.slice (some ⟨b, off, none⟩) n cap :: vals) := .cons ⟨cap, rfl⟩ hargs
    have hR := start_rel (nt := nt) (n := fn.ntmps) hok hgl hargs' (by simp; omega) hnt
    refine Code.wp_mono (fun e a' W' ⟨W0, s, l2, hE, hq, ⟨m', hs⟩, hw'⟩ => ?_) (h b ⟨W.heap.size, W, ok, fun _ => False, nt⟩ _ W rfl ⟨fun _ h => h, hlt, hnb, hgb⟩ ⟨_, hR⟩ hw)
    obtain ⟨he, rfl, hret⟩ := hq
    split at hret
    case h_2 => exact hret.elim
    rename_i t hrs
    obtain ⟨v, hv, hrt⟩ := hs.tm t _ hret
    have hrt : v = .bool r := hrt
    subst hrt
    have hg : a'.tmps.getD t undef = .bool r := by simp [hv]
    have hres : (results fn a'.tmps).run P W' = .ok (.bool r) W' := by
      have hfun : results fn a'.tmps = (do let vs ← fn.results.mapM (resOf a'.tmps); pure (if h : vs.size = 1 then vs[0] else .tuple vs)) := by
        unfold results
        congr 1
      rw [hfun]
      have h1 : (resOf a'.tmps (.tmp t)).run P W' = .ok (.bool r) W' := by simp [resOf, hg]
      simp only [Sem.run_bind, Array.mapM_eq_mapM_toList, Sem.run_map, hrs, List.mapM_cons, List.mapM_nil, h1, Result.andThen_ok, Sem.run_pure]
      simp
    have hsz : W0.heap.size = W.heap.size := hE.size
    have hkeep : ∀ k, k < W.heap.size → W'.heap[k]? = W0.heap[k]? := fun k hk => hs.keep k hk (fun h => h)
    have hX : BelowX b W W' := ⟨hs.os.trans hE.os, hs.tape.trans hE.tape, hs.output.trans hE.output, hs.size, fun k hk hkb => (hkeep k hk).trans (hE.block k hkb)⟩
    have hsh : W'.shape? b = W.shape? b := (shape_of_heap (hkeep b hlt)).trans hE.shape
    rcases he with rfl | rfl
    · exact ⟨hs.df, _, hres, rfl, hX, hsh, hw'⟩
    · exact ⟨hs.df, _, hres, rfl, hX, hsh, hw'⟩
end Go.Proofs.YtokgalpflooegaaDoor
/- A part of a row of words of the call's own, given to a call that writes it. No condition. -/
namespace Go.Proofs.YtokgalpflooegaaDoor
set_option linter.unusedVariables false
set_option linter.unusedSimpArgs false
section
variable {P : Program} {G : Gl} {nt : Nat} {st : St} {cx : Cx} {a : Act} {W W' : World} {m : Nat → Option Nat} {ops l : List Oper} {Q : St → Prop}
theorem enX (h : RelM G cx m st a W) {j b : Nat} (hX : BelowX b W W') (hsh : W'.shape? b = W.shape? b) {w w' : List Nat} (hl : w'.length = w.length) (hj : lk j st.ob = some (.wr w)) (hb : m j = some b) : EnLe (fun _ => True) (en cx m st.ob W) (en cx m (put j (.wr w') st.ob) W') := by
  refine ⟨fun c ⟨g1, g2, g3⟩ => ⟨g1, Nat.lt_of_lt_of_le g2 hX.size, fun k o hk => ?_⟩, fun c ⟨g1, g2, g3⟩ => hX.block c g2 (fun e => g3 j _ hj (e ▸ hb)), Nat.le_refl _, fun k _ o' ho' => ?_⟩
  · by_cases hkj : k = j
    · subst hkj; exact g3 k _ hj
    · rw [lk_put_ne _ _ hkj] at hk; exact g3 k o hk
  · by_cases hkj : k = j
    · subst hkj
      have : lk k (put k (.wr w') st.ob) = some o' := ho'
      rw [lk_put_self] at this; injection this with this; subst this
      exact ⟨_, hj, rfl, rfl, by simp [Ob.len, hl], fun _ => ⟨rfl, fun c hc => by
        obtain rfl := some_unique hb hc
        exact hsh⟩⟩
    · have : lk k st.ob = some o' := by rw [← lk_put_ne (Ob.wr w') st.ob hkj]; exact ho'
      exact ⟨o', this, rfl, rfl, Nat.le_refl _, fun _ => ⟨rfl, fun c hc => shape_of_heap (hX.block c (h.own k o' c this hc).1 (fun e => hkj (by subst e; exact h.inj k j o' _ c this hj hc hb)))⟩⟩
theorem RelM.behind (hr : RelM G cx m st a W) {j b : Nat} (hX : BelowX b W W') (hsh : W'.shape? b = W.shape? b) {w w' : List Nat} (hl : w'.length = w.length) (hj : lk j st.ob = some (.wr w)) (hb : m j = some b) (hw : Win W' b w') : RelM G cx m ⟨st.tm, put j (.wr w') st.ob⟩ a W' := by
  have he := enX hr hX hsh hl hj hb
  refine hr.move he (fun _ _ _ _ _ => trivial) hX.size hX.os hX.tape hX.output (fun c hc hn => hX.block c (Nat.lt_of_lt_of_le hc hr.size) (fun e => by
      subst e; rcases (hr.own j _ c hj hb).2 with h' | h'
      · omega
      · exact hn h'.1)) (fun k o2 hk => ?_) (fun k k' o1 o2 c g1 g2 g3 g4 => ?_) (fun k o2 c g1 g2 => ?_) (fun o2 ho2 => ?_)
  · by_cases hkj : k = j
    · subst hkj; rw [lk_put_self] at hk; injection hk with hk; subst hk
      obtain ⟨vs, e, q1, q2⟩ := hw
      exact .inr ⟨b, vs, e, hb, q1, q2⟩
    · rw [lk_put_ne _ _ hkj] at hk
      exact RO.mono he (fun _ _ => trivial) rfl (fun c hc => hX.block c (hr.own k o2 c hk hc).1 (fun e => hkj (by subst e; exact hr.inj k j o2 _ c hk hj hc hb))) (hr.ob k o2 hk)
  · have f : ∀ {k o2}, lk k (put j (.wr w') st.ob) = some o2 → ∃ o3, lk k st.ob = some o3 := fun {k o2} hk => by
      by_cases hkj : k = j
      · subst hkj; exact ⟨_, hj⟩
      · rw [lk_put_ne _ _ hkj] at hk; exact ⟨_, hk⟩
    obtain ⟨o3, q1⟩ := f g1
    obtain ⟨o4, q2⟩ := f g2
    exact hr.inj k k' o3 o4 c q1 q2 g3 g4
  · by_cases hkj : k = j
    · subst hkj
      obtain ⟨p1, p2⟩ := hr.own k _ c hj g2
      refine ⟨Nat.lt_of_lt_of_le p1 hX.size, ?_⟩
      rcases p2 with p2 | ⟨_, p2, _⟩
      · exact .inl p2
      · simp [Ob.isBox] at p2
    · rw [lk_put_ne _ _ hkj] at g1; exact ⟨Nat.lt_of_lt_of_le (hr.own k o2 c g1 g2).1 hX.size, (hr.own k o2 c g1 g2).2⟩
  · by_cases hkj : 7777777 = j
    · subst hkj
      obtain ⟨p1, _⟩ := hr.pin _ hj
      simp [Ob.isBox] at p1
    · rw [lk_put_ne _ _ hkj] at ho2
      obtain ⟨p1, c, g2, g3, g4⟩ := hr.pin o2 ho2
      refine ⟨p1, c, g2, g3, (shape_of_heap (hX.block c (hr.own _ o2 c ho2 g2).1 (fun e => hkj ?_))).trans g4⟩
      subst e
      exact hr.inj _ j o2 _ c ho2 hj g2 hb
/-- The call. -/
theorem DoL.callX {o1 o2 o3 o4 : Oper} {t e : TypeId} {b1 z1 : Nat} {c1 : List Ce} {te : TI} {x lo hi y z : Operand} {j n d1 d2 d3 : Nat} {w w' : List Nat} {l0 h0 : Int} {yv zv : PV} {f : FuncId} {xf : Operand} {ts : Array TypeId} {r : Bool} (md : Bool) (lab : Nat)
    (hg1 : o1.guard = none) (hop1 : o1.op = .slice t x (some lo) (some hi) none) (hd1 : o1.dst = some d1) (hn1 : d1 < nt)
    (hg2 : o2.guard = none) (hop2 : o2.op = .move y) (hd2 : o2.dst = some d2) (hn2 : d2 < nt) (hne : d2 ≠ d1)
    (hg4 : o3.guard = none) (hop4 : o3.op = .move z) (hd4 : o3.dst = some d3) (hn4 : d3 < nt) (hne4 : d3 ≠ d1) (hne5 : d3 ≠ d2)
    (hg3 : o4.guard = none) (hop3 : o4.op = .call { callee := .value xf, args := #[.tmp d1, .tmp d2, .tmp d3], argTypes := ts }) (hd3 : dstOk nt o4.dst = true)
    (ht : tiOf P t = some ⟨b1, z1, c1, .slice e⟩) (he : tiOf P e = some te) (hsz : te.size = 1)
    (hx : opv st.tm x = some (.v (.c (.r j n)))) (hj : lk j st.ob = some (.wr w)) (hlo : opv st.tm lo = some (.v (.c (.i .i64 l0)))) (hhi : opv st.tm hi = some (.v (.c (.i .i64 h0))))
    (hy : opv (del d1 st.tm) y = some (.v yv)) (hz : opv (put d2 (.v yv) (del d1 st.tm)) z = some (.v zv)) (hxf : opv (put d3 (.v zv) (put d2 (.v yv) (del d1 st.tm))) xf = some (.v (.c (.f f))))
    (hp : w.length = n ∧ 0 ≤ l0 ∧ l0 < h0 ∧ h0 ≤ w.length) (hD : DoesX P G f l0.toNat (h0.toNat - l0.toNat) w [yv.ext, zv.ext] r w') (hl : w'.length = w.length)
    (next : runs P G nt md ops Q lab l ⟨setv o4.dst (some (.v (.c (.b r)))) (put d3 (.v zv) (put d2 (.v yv) (del d1 st.tm))), put j (.wr w') st.ob⟩) : DoL P G nt ops (o1 :: o2 :: o3 :: o4 :: l) st Q := by
  intro cx a W hn ⟨m, hr⟩ Q' hQ
  subst hn
  obtain ⟨_, hxr⟩ : _ ∧ ((n = 0 ∧ a.eval x = .slice none 0 0 ∧ m j = none) ∨ ∃ b cap e, m j = some b ∧ a.eval x = .slice (some ⟨b, 0, none⟩) n cap ∧ n ≤ cap ∧ W.shape? b = some (e, cap * (Ob.wr w).sz)) := (hr.opv hx).2 _ hj (by simp [Ob.len, hp.1])
  rcases hxr with ⟨z1, _, _⟩ | ⟨b, cap, e', hb, hxv, hcap, _⟩
  · omega
  have vlo : a.eval lo = .int .i64 l0 := hr.opv hlo
  have vhi : a.eval hi = .int .i64 h0 := hr.opv hhi
  have hB : Bnd n cap l0 h0 (some (a.eval lo)) (some (a.eval hi)) none cap := ⟨.inr (by rw [vlo]), hp.2.1, by omega, by omega, hcap, .inl ⟨rfl, rfl, .inr (by rw [vhi])⟩⟩
  obtain ⟨e2, _⟩ := run_slice (P := P) (W := W) (ad := some ⟨b, 0, none⟩) (tiOf_slice ht) he hB
  rw [if_neg (by omega)] at e2
  simp only [Option.map_some, hsz, Nat.mul_one, addr_add0, Nat.zero_add] at e2
  obtain ⟨u, hu⟩ : ∃ u, Value.slice (some ⟨b, l0.toNat, none⟩) (h0.toNat - l0.toNat) (cap - l0.toNat) = u := ⟨_, rfl⟩
  rw [hu] at e2
  -- the part
  refine wpList_plain hg1 fun K1 hK1 => ?_
  unfold Oper.wp
  have x1 : (execOp a.eval o1).run P W = .ok (.value u) W := by
    have : execOp a.eval o1 = (do pure (.value (← Instr.sliceAt t (a.eval x) (some (a.eval lo)) (some (a.eval hi)) none))) := by
      unfold execOp; simp [hop1]
    rw [this, hxv]; simp [e2]
  rw [x1]
  refine hK1 _ _ ?_
  rw [hd1]
  have h1 := hr.forget d1 u
  generalize ha1 : a.put (some d1) u = a1 at *
  have hu1 : a1.tmps[d1]? = some u := by rw [← ha1]; simp [Act.put, hr.nt, hn1]
  refine wpList_plain hg2 fun K2 hK2 => ?_
  unfold Oper.wp
  have hyv : RT (en cx m st.ob W) (.v yv) (a1.eval y) := h1.opv hy
  have x2 : (execOp a1.eval o2).run P W = .ok (.value (a1.eval y)) W := by unfold execOp; simp [hop2]
  rw [x2]
  refine hK2 _ _ ?_
  rw [hd2]
  have h2 := h1.slot hn2 hyv
  generalize hy2 : a1.eval y = y2 at *
  generalize ha2 : a1.put (some d2) y2 = a2 at *
  have hu2 : a2.tmps[d1]? = some u := by rw [← ha2]; simp [Act.put, Array.getElem?_setIfInBounds_ne hne, hu1]
  have hv2 : a2.tmps[d2]? = some y2 := by rw [← ha2]; simp [Act.put, h1.nt, hn2]
  refine wpList_plain hg4 fun K3 hK3 => ?_
  unfold Oper.wp
  have hzv : RT (en cx m st.ob W) (.v zv) (a2.eval z) := h2.opv hz
  have x3 : (execOp a2.eval o3).run P W = .ok (.value (a2.eval z)) W := by unfold execOp; simp [hop4]
  rw [x3]
  refine hK3 _ _ ?_
  rw [hd4]
  have h3 := h2.slot hn4 hzv
  generalize hz2 : a2.eval z = z2 at *
  generalize ha3 : a2.put (some d3) z2 = a3 at *
  have hu3 : a3.tmps[d1]? = some u := by rw [← ha3]; simp [Act.put, Array.getElem?_setIfInBounds_ne hne4, hu2]
  have hv3 : a3.tmps[d2]? = some y2 := by rw [← ha3]; simp [Act.put, Array.getElem?_setIfInBounds_ne hne5, hv2]
  have hw3 : a3.tmps[d3]? = some z2 := by rw [← ha3]; simp [Act.put, h2.nt, hn4]
  -- the call
  refine wpList_plain hg3 fun K hK => ?_
  unfold Oper.wp
  have hxv : a3.eval xf = .func (.func f) #[] #[] := h3.opv hxf
  have hexec : execOp a3.eval o4 = callFunc f [u, y2, z2].toArray := by
    have q1 : a3.eval (.tmp d1) = u := by simp [Act.eval, hu3]
    have q2 : a3.eval (.tmp d2) = y2 := by simp [Act.eval, hv3]
    have q3 : a3.eval (.tmp d3) = z2 := by simp [Act.eval, hw3]
    unfold execOp
    simp [hop3, resolve, hxv, Deferred.ofValue, invoke, q1, q2, q3]
  have hok : ∀ c, okC cx m st W false c → c < W.heap.size := by
    rintro c (h | ⟨e, _⟩)
    · exact h.2.1
    · cases e
  have hnb : ¬ okC cx m st W false b := by
    rintro (h | ⟨e, _⟩)
    · exact h.2.2 j _ hj hb
    · cases e
  have hgb : ∀ (b' off : Nat) (x : Ce), (G b')[off]? = some x → b' ≠ b := fun b' off x hx e => by
    subst e
    obtain ⟨k1, k2, _⟩ := hr.gl b' off x hx
    rcases (hr.own j _ b' hj hb).2 with k3 | k3
    · omega
    · exact k2 k3.1
  have hwin : Win W b w := by
    rcases hr.ob j _ hj with ⟨g1, _⟩ | ⟨b', vs, e, g1, g2, g3⟩
    · subst g1; simp at hp; omega
    · obtain rfl := some_unique (show m j = some b from hb) g1
      exact ⟨vs, e, g2, g3⟩
  have hargs : All2 (RP (enA W (okC cx m st W false))) [yv.ext, zv.ext] [y2, z2] :=
    .cons (PLe.ext _ _ _ (RP.mono (okC_le cx m st W false) (fun _ _ => trivial) hyv)) (.cons (PLe.ext _ _ _ (RP.mono (okC_le cx m st W false) (fun _ _ => trivial) hzv)) .nil)
  obtain ⟨g1, g2⟩ := hD W (okC cx m st W false) _ b (cap - l0.toNat) hok hr.glOk hgb hnb hwin hargs
  rw [hu] at g1 g2
  rw [hexec, g1]
  refine g2.mono ?_
  rintro en' W' ⟨rfl, hX, hsh, hw'⟩
  have h4 := h3.behind hX hsh hl hj hb hw'
  exact hK _ _ (DoL.run next cx _ _ rfl (Rel.put h4 rfl hd3 (x := .v (.c (.b r))) (show RT (en cx m (put j (.wr w') st.ob) W') (.v (.c (.b r))) (.bool r) from rfl)) Q' hQ)
end
end Go.Proofs.YtokgalpflooegaaDoor
