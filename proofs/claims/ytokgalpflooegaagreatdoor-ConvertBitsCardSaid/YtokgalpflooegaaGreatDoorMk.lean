/- Rounding of rational numbers whose denominator is 1; the program awake. No condition. The law ConvertFormats. No condition. The law ConvertLarge. No condition. A rational number of the reference, rounded to an integer. No condition. The law ConvertIntegrals. No condition. The field of a value, under a test that holds, in a region whose order is open. No condition. Integers that are alike. No condition. The law ConvertWhole. No condition. The law ConvertInts. No condition. An element of an array of two, in a region whose order is open; the ends of integers of so many bits. No condition. -/
import Derived.Test.YtokgalpflooegaaGreatDoorMj
import Derived.Test.YtokgalpflooegaaGreatDoorMg
import Derived.KernelRfl
import Derived.Test.YtokgalpflooegaaGreatDoorMh
import Derived.Test.YtokgalpflooegaaGreatDoorMi
/- Rounding of rational numbers whose denominator is 1; the program awake. No condition. -/
namespace Go.Proofs.YtokgalpflooegaaGreatDoor
set_option linter.unusedVariables false
set_option linter.unusedSimpArgs false
set_option maxHeartbeats 4000000
set_option maxRecDepth 10000
/-- A rational number as it is laid. -/
abbrev Qr (n : Bool) (m d : List Nat) : PV := .a [.b n, .w false m, .w false d]
/-- The error of a rational number and a rounding. -/
def checkQ (r : Int) (m d : List Nat) : Int :=
  if 4096 < m.length ∨ 4096 < d.length then 2 else if val d = 0 then 5 else if 0 ≤ r ∧ r ≤ 4 then 0 else 1
theorem check_does20 {r : Int} {n : Bool} {m d : List Nat} (hm : Sh m) (hd : Sh d) : Does Tryz.prog Gv 120 [.c (.i .i64 r), .s false [[.b n, .w false m, .w false d]]] (.v (.c (.i .i64 (checkQ r m d)))) := by
  have hz : checkQ r m d = checkQ r m d := rfl
  conv at hz => rhs; unfold checkQ
  generalize checkQ r m d = z at *
  have hZ := @Zero_does Gv d hd
  have hR := @Right_does Gv r
  refine Does.of (nt := 40) Tryz.func120 rfl rfl rfl (by simp) ?_
  simp only [argTm, PV.ext, Ce.ext]
  refine Do.seqk fun _ k1_ => ?_
  refine Do.region [0,1] true ?_
  simp [go_sem]
  apply k1_; clear k1_
  refine Do.seqk fun _ k2_ => ?_
  refine Do.seqk fun _ k3_ => ?_
  refine Do.region [0,1,9,10,11] true ?_
  simp [go_sem]
  repeat (refine And.intro (by first | omega | (intros; omega) | (intros; exact And.intro (by assumption) (by omega)) | grind) ?_)
  apply k3_; clear k3_
  refine Do.block ?_
  refine Do.loopF [0,1,9,10,11] (fun (i : Nat) => [(11, .int .i64 i)]) (fun (i : Nat) => []) (fun (i : Nat) => i ≤ 1 ∧ (0 < i → ¬ (4096 < m.length ∨ 4096 < d.length))) (fun (i : Nat) => 1 - i) (0) (fun _ => by first | (simp [go_sem, mixS]; done) | (simp [go_sem, mixS]; rfl)) (St.le_of (by first | rfl | simp [keep]) (by first | rfl | simp [keep])) (⟨by omega, by omega⟩) ?_
  rintro i ⟨hi, hs⟩
  refine Do.seqk fun _ k4_ => ?_
  refine Do.region [0,1,9,10,11,12] true ?_
  simp [go_sem]
  apply k4_; clear k4_
  refine Do.seqk fun _ k5_ => ?_
  refine Do.cond [0,1,9,10,11] rfl (fun g1 => ?_) (fun g1 => ?_) <;> simp [go_sem] at g1 ⊢
  · obtain rfl : i = 0 := by omega
    refine Do.skip ?_
    simp [go_sem]
    apply k5_; clear k5_
    refine Do.seqk fun _ k6_ => ?_
    refine Do.block ?_
    refine Do.seqk fun _ k7_ => ?_
    refine Do.region [0,1,6,9,10,11] true ?_
    simp [go_sem, List.length_cons, List.length_nil]
    repeat (refine And.intro (by first | omega | (intros; omega) | (intros; exact And.intro (by assumption) (by omega)) | grind) ?_)
    apply k7_; clear k7_
    refine Do.seqk fun _ k8_ => ?_
    refine Do.region [0,1,9,10,11,25] true ?_
    simp [go_sem, List.length_cons, List.length_nil]
    repeat (refine And.intro (by first | omega | (intros; omega) | (intros; exact And.intro (by assumption) (by omega)) | grind) ?_)
    apply k8_; clear k8_
    refine Do.cond [0,1,9,10,11] rfl (fun g2 => ?_) (fun g2 => ?_) <;> simp [go_sem, List.length_cons, List.length_nil] at g2 ⊢
    · refine Do.seqk fun _ k9_ => ?_
      refine Do.region [4] true ?_
      simp [go_sem, List.length_cons, List.length_nil]
      apply k9_; clear k9_
      refine Do.ret ?_
      simp [endQ, rets, ret1, go_sem, List.length_cons, List.length_nil]
      repeat (refine And.intro (by first | omega | (intros; omega) | (intros; exact And.intro (by assumption) (by omega)) | grind) ?_)
      rw [if_pos (by omega)] at hz
      subst hz
      exact TLe.refl _
    · refine Do.skip ?_
      simp [go_sem]
      apply k6_; clear k6_
      refine Do.region [0,1,9,10,11] true ?_
      simp [go_sem, List.length_cons, List.length_nil]
      repeat (refine And.intro (by first | omega | (intros; omega) | (intros; exact And.intro (by assumption) (by omega)) | grind) ?_)
      refine ⟨1, St.le_of (by first | rfl | simp [keep]) (by first | rfl | simp [keep]), ⟨by omega, by omega⟩, by simp⟩
  · obtain rfl : i = 1 := by omega
    have hs := hs (by omega)
    rw [if_neg hs] at hz
    refine Do.exit ?_
    simp [go_sem]
    apply k2_; clear k2_
    refine Do.seqk fun _ k10_ => ?_
    refine Do.seqk fun _ k11_ => ?_
    refine Do.region [0,27,28,29] true ?_
    simp [go_sem]
    repeat (refine And.intro (by first | omega | (intros; omega) | (intros; exact And.intro (by assumption) (by omega)) | grind) ?_)
    apply k11_; clear k11_
    refine Do.block ?_
    refine Do.loopF [0,27,28,29] (fun (j : Nat) => [(29, .int .i64 j)]) (fun (j : Nat) => []) (fun (j : Nat) => j ≤ 1 ∧ (0 < j → val d ≠ 0)) (fun (j : Nat) => 1 - j) (0) (fun _ => by first | (simp [go_sem, mixS]; done) | (simp [go_sem, mixS]; rfl)) (St.le_of (by first | rfl | simp [keep]) (by first | rfl | simp [keep])) (⟨by omega, by omega⟩) ?_
    rintro j ⟨hj, hs2⟩
    refine Do.seqk fun _ k12_ => ?_
    refine Do.region [0,27,28,29,30] true ?_
    simp [go_sem]
    apply k12_; clear k12_
    refine Do.seqk fun _ k13_ => ?_
    refine Do.cond [0,27,28,29] rfl (fun g3 => ?_) (fun g3 => ?_) <;> simp [go_sem] at g3 ⊢
    · obtain rfl : j = 0 := by omega
      refine Do.skip ?_
      simp [go_sem]
      apply k13_; clear k13_
      refine Do.seqk fun _ k14_ => ?_
      refine Do.block ?_
      refine Do.seqk fun _ k15_ => ?_
      refine Do.region [0,8,27,28,29] true ?_
      simp [go_sem, List.length_cons, List.length_nil]
      repeat (refine And.intro (by first | omega | (intros; omega) | (intros; exact And.intro (by assumption) (by omega)) | grind) ?_)
      apply k15_; clear k15_
      refine Do.seqk fun _ k16_ => ?_
      refine Do.region [0,27,28,29,35] true ?_
      simp [go_sem, List.length_cons, List.length_nil]
      repeat (refine And.intro (by first | omega | (intros; omega) | (intros; exact And.intro (by assumption) (by omega)) | grind) ?_)
      refine DoL.call true 1003 rfl rfl rfl rfl (by first | exact trivial | omega | (simp; done) | (simp; omega)) (hZ) rfl (by first | exact .inl rfl | exact .inr rfl) rfl ?_
      simp [go_sem, List.length_cons, List.length_nil]
      apply k16_; clear k16_
      refine Do.cond [0,27,28,29] rfl (fun g4 => ?_) (fun g4 => ?_) <;> simp [go_sem, List.length_cons, List.length_nil] at g4 ⊢
      · refine Do.seqk fun _ k17_ => ?_
        refine Do.region [4] true ?_
        simp [go_sem, List.length_cons, List.length_nil]
        apply k17_; clear k17_
        refine Do.ret ?_
        simp [endQ, rets, ret1, go_sem, List.length_cons, List.length_nil]
        repeat (refine And.intro (by first | omega | (intros; omega) | (intros; exact And.intro (by assumption) (by omega)) | grind) ?_)
        rw [if_pos g4] at hz
        subst hz
        exact TLe.refl _
      · refine Do.skip ?_
        simp [go_sem]
        apply k14_; clear k14_
        refine Do.region [0,27,28,29] true ?_
        simp [go_sem, List.length_cons, List.length_nil]
        repeat (refine And.intro (by first | omega | (intros; omega) | (intros; exact And.intro (by assumption) (by omega)) | grind) ?_)
        refine ⟨1, St.le_of (by first | rfl | simp [keep]) (by first | rfl | simp [keep]), ⟨by omega, fun _ => g4⟩, by simp⟩
    · obtain rfl : j = 1 := by omega
      rw [if_neg (hs2 (by omega))] at hz
      refine Do.exit ?_
      simp [go_sem]
      apply k10_; clear k10_
      refine Do.seqk fun _ k18_ => ?_
      refine Do.seqk fun _ k19_ => ?_
      refine Do.region [39] true ?_
      simp [go_sem]
      refine DoL.call true 1302 rfl rfl rfl rfl (by first | exact trivial | omega | (simp; done) | (simp; omega)) (hR) rfl (by first | exact .inl rfl | exact .inr rfl) rfl ?_
      simp [go_sem]
      repeat (refine And.intro (by first | omega | (intros; omega) | (intros; exact And.intro (by assumption) (by omega)) | grind) ?_)
      apply k19_; clear k19_
      refine Do.cond [] rfl (fun g5 => ?_) (fun g5 => ?_) <;> simp [go_sem] at g5 ⊢
      · refine Do.seqk fun _ k20_ => ?_
        refine Do.region [4] true ?_
        simp [go_sem]
        apply k20_; clear k20_
        refine Do.ret ?_
        simp [endQ, rets, ret1, go_sem]
        repeat (refine And.intro (by first | omega | (intros; omega) | (intros; exact And.intro (by assumption) (by omega)) | grind) ?_)
        rw [if_neg (by omega)] at hz
        subst hz
        exact TLe.refl _
      · refine Do.skip ?_
        simp [go_sem]
        apply k18_; clear k18_
        refine Do.seqk fun _ k21_ => ?_
        refine Do.region [4] true ?_
        simp [go_sem]
        apply k21_; clear k21_
        refine Do.ret ?_
        simp [endQ, rets, ret1, go_sem]
        repeat (refine And.intro (by first | omega | (intros; omega) | (intros; exact And.intro (by assumption) (by omega)) | grind) ?_)
        rw [if_pos (by omega)] at hz
        subst hz
        exact TLe.refl _
/-- A rational number with the denominator 1, rounded, or the error. -/
def roundQ (f p r : Int) (n : Bool) (m : List Nat) : Flt × Int × Int :=
  if checkQ r m [1] ≠ 0 then (⟨0, false, 0, 0⟩, 0, checkQ r m [1]) else if fmOk f p = false then (⟨0, false, 0, 0⟩, 0, 150)
  else if val m = 0 then (⟨0, false, 0, 0⟩, 0, 0) else ((roundP f p r n (val m) 0 false).1, (roundP f p r n (val m) 0 false).2, 0)
theorem checkQ_zero {r : Int} {m d : List Nat} (h : checkQ r m d = 0) : m.length ≤ 4096 ∧ d.length ≤ 4096 ∧ val d ≠ 0 ∧ 0 ≤ r ∧ r ≤ 4 := by
  unfold checkQ at h
  split at h
  · omega
  · split at h
    · omega
    · split at h <;> omega
theorem Round_err20 {f p r : Int} {n : Bool} {m d : List Nat} (hm : Sh m) (hd : Sh d) (h : checkQ r m d ≠ 0) : Does Tryz.prog Gv 57 [Fm f p, .c (.i .i64 r), Qr n m d] (.t [Flt.pv ⟨0, false, 0, 0⟩, .c (.i .i64 0), .c (.i .i64 (checkQ r m d))]) := by
  have hC := @check_does20 r n m d hm hd
  generalize checkQ r m d = z at *
  have hz : (z != 0) = true := by simpa using h
  have hz2 : (z == 0) = false := by simpa using h
  refine Does.of (nt := 46) Tryz.func57 rfl rfl rfl (by simp) ?_
  simp only [argTm, PV.ext, Ce.ext]
  refine Do.seqk fun _ k1_ => ?_
  refine Do.region [1,3,5,6] true ?_
  simp [go_sem]
  apply k1_; clear k1_
  refine Do.seqk fun _ k2_ => ?_
  refine Do.region [1,3,5,6,9] true ?_
  simp [go_sem]
  repeat (refine And.intro (by first | omega | (intros; omega) | (intros; exact And.intro (by assumption) (by omega)) | grind) ?_)
  refine DoL.sealS true 103 102 rfl ?_
  simp [go_sem]
  refine DoL.call true 104 rfl rfl rfl rfl (by first | exact trivial | omega | (simp; done) | (simp; omega)) (hC) rfl (by first | exact .inl rfl | exact .inr rfl) rfl ?_
  simp [go_sem]
  apply k2_; clear k2_
  refine Do.seqk fun _ k3_ => ?_
  refine Do.seqk fun _ k4_ => ?_
  refine Do.region [1,3,5,6,9,17] true ?_
  simp [go_sem, hz, hz2]
  apply k4_; clear k4_
  refine Do.cond [1,3,5,6,9] rfl (fun g1 => ?_) (fun g1 => ?_) <;> simp [go_sem, hz, hz2] at g1 ⊢
  refine Do.skip ?_
  simp [go_sem]
  apply k3_; clear k3_
  refine Do.seqk fun _ k5_ => ?_
  refine Do.seqk fun _ k6_ => ?_
  refine Do.region [1,3,5,6,9,27] true ?_
  simp [go_sem, hz, hz2]
  repeat (refine And.intro (by first | omega | (intros; omega) | (intros; exact And.intro (by assumption) (by omega)) | grind) ?_)
  refine DoL.gOff true 407 rfl rfl (.v (.c (.b false))) rfl ?_
  simp [go_sem, hz, hz2]
  apply k6_; clear k6_
  refine Do.cond [1,3,5,6,9] rfl (fun g2 => ?_) (fun g2 => ?_) <;> simp [go_sem, hz, hz2] at g2 ⊢
  refine Do.seqk fun _ k7_ => ?_
  refine Do.region [6,7,8] true ?_
  simp [go_sem, hz, hz2]
  repeat (refine And.intro (by first | omega | (intros; omega) | (intros; exact And.intro (by assumption) (by omega)) | grind) ?_)
  apply k7_; clear k7_
  refine Do.ret ?_
  simp [endQ, rets, ret1, go_sem, hz, hz2]
  repeat (refine And.intro (by first | omega | (intros; omega) | (intros; exact And.intro (by assumption) (by omega)) | grind) ?_)
  exact TLe.t (.cons (PLe.flt (ret_z rfl)) (.cons (PLe.refl _) (.cons (PLe.refl _) .nil)))
theorem Round_fmt20 {f p r : Int} {n : Bool} {m d : List Nat} (hm : Sh m) (hd : Sh d) (h : checkQ r m d = 0) (hf : fmOk f p = false) : Does Tryz.prog Gv 57 [Fm f p, .c (.i .i64 r), Qr n m d] (.t [Flt.pv ⟨0, false, 0, 0⟩, .c (.i .i64 0), .c (.i .i64 150)]) := by
  have hC := @check_does20 r n m d hm hd
  rw [h] at hC
  have hF := @Check_does Gv f p
  rw [if_neg (by simp [hf])] at hF
  refine Does.of (nt := 46) Tryz.func57 rfl rfl rfl (by simp) ?_
  simp only [argTm, PV.ext, Ce.ext]
  refine Do.seqk fun _ k1_ => ?_
  refine Do.region [1,3,5,6] true ?_
  simp [go_sem]
  apply k1_; clear k1_
  refine Do.seqk fun _ k2_ => ?_
  refine Do.region [1,3,5,6,9] true ?_
  simp [go_sem]
  repeat (refine And.intro (by first | omega | (intros; omega) | (intros; exact And.intro (by assumption) (by omega)) | grind) ?_)
  refine DoL.sealS true 103 102 rfl ?_
  simp [go_sem]
  refine DoL.call true 104 rfl rfl rfl rfl (by first | exact trivial | omega | (simp; done) | (simp; omega)) (hC) rfl (by first | exact .inl rfl | exact .inr rfl) rfl ?_
  simp [go_sem]
  apply k2_; clear k2_
  refine Do.seqk fun _ k3_ => ?_
  refine Do.seqk fun _ k4_ => ?_
  refine Do.region [1,3,5,6,9,17] true ?_
  simp [go_sem]
  apply k4_; clear k4_
  refine Do.cond [1,3,5,6,9] rfl (fun g1 => ?_) (fun g1 => ?_) <;> simp [go_sem] at g1 ⊢
  refine Do.region [1,3,5,6,9] true ?_
  simp [go_sem]
  repeat (refine And.intro (by first | omega | (intros; omega) | (intros; exact And.intro (by assumption) (by omega)) | grind) ?_)
  refine DoL.call true 302 rfl rfl rfl rfl (by first | exact trivial | omega | (simp; done) | (simp; omega)) (hF) rfl (by first | exact .inl rfl | exact .inr rfl) rfl ?_
  simp [go_sem]
  apply k3_; clear k3_
  refine Do.seqk fun _ k5_ => ?_
  refine Do.seqk fun _ k6_ => ?_
  refine Do.region [1,3,5,6,9,27] true ?_
  simp [go_sem]
  repeat (refine And.intro (by first | omega | (intros; omega) | (intros; exact And.intro (by assumption) (by omega)) | grind) ?_)
  refine DoL.gOff true 407 rfl rfl (.v (.c (.b false))) rfl ?_
  simp [go_sem]
  apply k6_; clear k6_
  refine Do.cond [1,3,5,6,9] rfl (fun g2 => ?_) (fun g2 => ?_) <;> simp [go_sem] at g2 ⊢
  refine Do.seqk fun _ k7_ => ?_
  refine Do.region [6,7,8] true ?_
  simp [go_sem]
  repeat (refine And.intro (by first | omega | (intros; omega) | (intros; exact And.intro (by assumption) (by omega)) | grind) ?_)
  apply k7_; clear k7_
  refine Do.ret ?_
  simp [endQ, rets, ret1, go_sem]
  repeat (refine And.intro (by first | omega | (intros; omega) | (intros; exact And.intro (by assumption) (by omega)) | grind) ?_)
  exact TLe.t (.cons (PLe.flt (ret_z rfl)) (.cons (PLe.refl _) (.cons (PLe.refl _) .nil)))
theorem Round_zero20 {f p r : Int} {n : Bool} {m d : List Nat} (hm : Sh m) (hd : Sh d) (h : checkQ r m d = 0) (hf : fmOk f p = true) (h0 : val m = 0) : Does Tryz.prog Gv 57 [Fm f p, .c (.i .i64 r), Qr n m d] (.t [Flt.pv ⟨0, false, 0, 0⟩, .c (.i .i64 0), .c (.i .i64 0)]) := by
  have hC := @check_does20 r n m d hm hd
  rw [h] at hC
  have hF := @Check_does Gv f p
  rw [if_pos hf] at hF
  have hZ := @Zero_does Gv m hm
  rw [decide_eq_true h0] at hZ
  refine Does.of (nt := 46) Tryz.func57 rfl rfl rfl (by simp) ?_
  simp only [argTm, PV.ext, Ce.ext]
  refine Do.seqk fun _ k1_ => ?_
  refine Do.region [1,3,5,6] true ?_
  simp [go_sem]
  apply k1_; clear k1_
  refine Do.seqk fun _ k2_ => ?_
  refine Do.region [1,3,5,6,9] true ?_
  simp [go_sem]
  repeat (refine And.intro (by first | omega | (intros; omega) | (intros; exact And.intro (by assumption) (by omega)) | grind) ?_)
  refine DoL.sealS true 103 102 rfl ?_
  simp [go_sem]
  refine DoL.call true 104 rfl rfl rfl rfl (by first | exact trivial | omega | (simp; done) | (simp; omega)) (hC) rfl (by first | exact .inl rfl | exact .inr rfl) rfl ?_
  simp [go_sem]
  apply k2_; clear k2_
  refine Do.seqk fun _ k3_ => ?_
  refine Do.seqk fun _ k4_ => ?_
  refine Do.region [1,3,5,6,9,17] true ?_
  simp [go_sem]
  apply k4_; clear k4_
  refine Do.cond [1,3,5,6,9] rfl (fun g1 => ?_) (fun g1 => ?_) <;> simp [go_sem] at g1 ⊢
  refine Do.region [1,3,5,6,9] true ?_
  simp [go_sem]
  repeat (refine And.intro (by first | omega | (intros; omega) | (intros; exact And.intro (by assumption) (by omega)) | grind) ?_)
  refine DoL.call true 302 rfl rfl rfl rfl (by first | exact trivial | omega | (simp; done) | (simp; omega)) (hF) rfl (by first | exact .inl rfl | exact .inr rfl) rfl ?_
  simp [go_sem]
  apply k3_; clear k3_
  refine Do.seqk fun _ k5_ => ?_
  refine Do.seqk fun _ k6_ => ?_
  refine Do.region [1,3,5,6,9,27] true ?_
  simp [go_sem]
  repeat (refine And.intro (by first | omega | (intros; omega) | (intros; exact And.intro (by assumption) (by omega)) | grind) ?_)
  refine DoL.callg true 407 rfl rfl rfl rfl rfl (by simp [go_sem] <;> omega) (fun _ => hZ) rfl (by first | exact .inl rfl | exact .inr rfl) rfl ?_
  simp [go_sem]
  apply k6_; clear k6_
  refine Do.cond [1,3,5,6,9] rfl (fun g2 => ?_) (fun g2 => ?_) <;> simp [go_sem] at g2 ⊢
  refine Do.seqk fun _ k7_ => ?_
  refine Do.region [6,7,8] true ?_
  simp [go_sem]
  repeat (refine And.intro (by first | omega | (intros; omega) | (intros; exact And.intro (by assumption) (by omega)) | grind) ?_)
  apply k7_; clear k7_
  refine Do.ret ?_
  simp [endQ, rets, ret1, go_sem]
  repeat (refine And.intro (by first | omega | (intros; omega) | (intros; exact And.intro (by assumption) (by omega)) | grind) ?_)
  exact TLe.t (.cons (PLe.flt (ret_z rfl)) (.cons (PLe.refl _) (.cons (PLe.refl _) .nil)))
theorem Round_one {f p r : Int} {n : Bool} {m : List Nat} (hm : Sh m) (wm : Ws m) : Does Tryz.prog Gv 57 [Fm f p, .c (.i .i64 r), Qr n m [1]] (Res (roundQ f p r n m)) := by
  unfold roundQ
  by_cases h : checkQ r m [1] = 0
  · rw [if_neg (by omega)]
    cases hf : fmOk f p with
    | false => rw [if_pos rfl]; exact Round_fmt20 hm (by decide) h hf
    | true =>
      rw [if_neg (by simp)]
      by_cases h0 : val m = 0
      · rw [if_pos h0]; exact Round_zero20 hm (by decide) h hf h0
      · rw [if_neg h0]
        obtain ⟨c1, c2, c3, c4, c5⟩ := checkQ_zero h
        have hC := @check_does20 r n m [1] hm (by decide)
        rw [h] at hC
        have hF := @Check_does Gv f p
        rw [if_pos hf] at hF
        have hZ := @Zero_does Gv m hm
        rw [decide_eq_false h0] at hZ
        have hR := @Ratio_one f p r hf c4 c5 n m c1 wm (by omega)
        generalize roundP f p r n (val m) 0 false = z at *
        refine Does.of (nt := 46) Tryz.func57 rfl rfl rfl (by simp) ?_
        simp only [argTm, PV.ext, Ce.ext]
        refine Do.seqk fun _ k1_ => ?_
        refine Do.region [1,3,5,6] true ?_
        simp [go_sem]
        apply k1_; clear k1_
        refine Do.seqk fun _ k2_ => ?_
        refine Do.region [1,3,5,6,9] true ?_
        simp [go_sem]
        repeat (refine And.intro (by first | omega | (intros; omega) | (intros; exact And.intro (by assumption) (by omega)) | grind) ?_)
        refine DoL.sealS true 103 102 rfl ?_
        simp [go_sem]
        refine DoL.call true 104 rfl rfl rfl rfl (by first | exact trivial | omega | (simp; done) | (simp; omega)) (hC) rfl (by first | exact .inl rfl | exact .inr rfl) rfl ?_
        simp [go_sem]
        apply k2_; clear k2_
        refine Do.seqk fun _ k3_ => ?_
        refine Do.seqk fun _ k4_ => ?_
        refine Do.region [1,3,5,6,9,17] true ?_
        simp [go_sem]
        apply k4_; clear k4_
        refine Do.cond [1,3,5,6,9] rfl (fun g1 => ?_) (fun g1 => ?_) <;> simp [go_sem] at g1 ⊢
        refine Do.region [1,3,5,6,9] true ?_
        simp [go_sem]
        repeat (refine And.intro (by first | omega | (intros; omega) | (intros; exact And.intro (by assumption) (by omega)) | grind) ?_)
        refine DoL.call true 302 rfl rfl rfl rfl (by first | exact trivial | omega | (simp; done) | (simp; omega)) (hF) rfl (by first | exact .inl rfl | exact .inr rfl) rfl ?_
        simp [go_sem]
        apply k3_; clear k3_
        refine Do.seqk fun _ k5_ => ?_
        refine Do.seqk fun _ k6_ => ?_
        refine Do.region [1,3,5,6,9,27] true ?_
        simp [go_sem]
        repeat (refine And.intro (by first | omega | (intros; omega) | (intros; exact And.intro (by assumption) (by omega)) | grind) ?_)
        refine DoL.callg true 407 rfl rfl rfl rfl rfl (by simp [go_sem] <;> omega) (fun _ => hZ) rfl (by first | exact .inl rfl | exact .inr rfl) rfl ?_
        simp [go_sem]
        apply k6_; clear k6_
        refine Do.cond [1,3,5,6,9] rfl (fun g2 => ?_) (fun g2 => ?_) <;> simp [go_sem] at g2 ⊢
        refine Do.skip ?_
        simp [go_sem]
        apply k5_; clear k5_
        refine Do.seqk fun _ k7_ => ?_
        refine Do.region [6,10,11] true ?_
        simp [go_sem]
        repeat (refine And.intro (by first | omega | (intros; omega) | (intros; exact And.intro (by assumption) (by omega)) | grind) ?_)
        refine DoL.call true 611 rfl rfl rfl rfl (by first | exact trivial | omega | (simp; done) | (simp; omega)) (hR) rfl (by first | exact .inl rfl | exact .inr rfl) rfl ?_
        simp [go_sem]
        repeat (refine And.intro (by first | omega | (intros; omega) | (intros; exact And.intro (by assumption) (by omega)) | grind) ?_)
        apply k7_; clear k7_
        refine Do.seqk fun _ k8_ => ?_
        refine Do.region [6,7,8] true ?_
        simp [go_sem]
        repeat (refine And.intro (by first | omega | (intros; omega) | (intros; exact And.intro (by assumption) (by omega)) | grind) ?_)
        apply k8_; clear k8_
        refine Do.ret ?_
        simp [endQ, rets, ret1, go_sem]
        repeat (refine And.intro (by first | omega | (intros; omega) | (intros; exact And.intro (by assumption) (by omega)) | grind) ?_)
        exact TLe.refl _
  · rw [if_pos h]; exact Round_err20 hm (by decide) h
theorem ws_one {w : Nat} (h : w < 18446744073709551616) : Ws [w] := fun u hu => by simp at hu; omega
theorem awk_round : roundQ 5 11 2 false [2049] = (⟨1, false, 11, 1⟩, 1, 0) := by kernel_rfl
theorem Odd_awake : Does Tryz.prog Gv 20 [Fm 5 11, Qr false [2049] [1]] (.t [Flt.pv ⟨1, false, 1, 1025⟩, .c (.i .i64 1), .c (.i .i64 0)]) := by
  have hR := @Round_one 5 11 2 false [2049] (by decide) (ws_one (by decide))
  rw [awk_round] at hR
  have hR : Does Tryz.prog Gv 57 [Fm 5 11, .c (.i .i64 2), Qr false [2049] [1]] (.t [Fl 1 false 11 (nat 1), .c (.i .i64 1), .c (.i .i64 0)]) := hR
  rw [nat_one] at hR
  have hG : Does Tryz.prog Gv 58 [Fm 5 11] (.t [.c (.i .i64 (-14)), .c (.i .i64 15), .c (.i .i64 (-24)), .c (.i .i64 0)]) := @Range_does Gv 5 11 rfl
  have hL : Does Tryz.prog Gv 59 [Fm 5 11] (.t [Fl 1 false 5 (nat 2047), (Flt.mk 1 false (-14) 1).pv, (Flt.mk 1 false (-24) 1).pv, .c (.i .i64 0)]) := @Limits_does Gv 5 11 rfl
  have hS1 : Does Tryz.prog Gv 61 [Fm 5 11, .c (.i .i64 (-14))] (.v (.c (.i .i64 (-24)))) := @Step_does Gv 5 11 (-14) rfl (by decide) (by decide)
  have hS2 : Does Tryz.prog Gv 61 [Fm 5 11, .c (.i .i64 11)] (.v (.c (.i .i64 1))) := @Step_does Gv 5 11 11 rfl (by decide) (by decide)
  have hN : Does Tryz.prog Gv 62 [Wd [1]] (.int .i64 1) := @Len_does Gv [1] (by decide) (ws_one (by decide))
  have hSh : Does Tryz.prog Gv 65 [Wd [1], .c (.i .i64 10)] (.v (Wn (nat 1024))) := @Shl_does Gv [1] (by decide) (ws_one (by decide)) 10 (by decide)
  have hA := @Add_does Gv (nat 1024) [1] (by rw [nat_word (by decide) (by decide)]; decide) (by decide) (nat_ws _) (ws_one (by decide)) (by rw [nat_word (by decide) (by decide)]; decide) (by decide)
  rw [val_nat, show 1024 + val [1] = 1025 from rfl] at hA
  have hM := @Make_does false (nat 1025) 1 (by rw [nat_word (by decide) (by decide)]; decide) (nat_ws _) (by decide) (by decide)
  rw [val_nat, show mkP false 1025 1 = ⟨1, false, 1, 1025⟩ by kernel_rfl] at hM
  refine Does.of (nt := 109) Tryz.func20 rfl rfl rfl (by simp) ?_
  simp only [argTm, PV.ext, Ce.ext]
  refine Do.seqk fun _ k1_ => ?_
  refine Do.region [2,3,4] true ?_
  simp [go_sem]
  apply k1_; clear k1_
  refine Do.seqk fun _ k2_ => ?_
  refine Do.region [2,3,4,7,8,9] true ?_
  simp [go_sem]
  repeat (refine And.intro (by first | omega | (intros; omega) | (intros; exact And.intro (by assumption) (by omega)) | grind) ?_)
  refine DoL.call true 103 rfl rfl rfl rfl (by first | exact trivial | omega | (simp; done) | (simp; omega)) (hR) rfl (by first | exact .inl rfl | exact .inr rfl) rfl ?_
  simp [go_sem]
  repeat (refine And.intro (by first | omega | (intros; omega) | (intros; exact And.intro (by assumption) (by omega)) | grind) ?_)
  apply k2_; clear k2_
  refine Do.seqk fun _ k3_ => ?_
  refine Do.seqk fun _ k4_ => ?_
  refine Do.region [2,3,4,7,8,9,31] true ?_
  simp [go_sem]
  apply k4_; clear k4_
  refine Do.cond [2,3,4,7,8,9] rfl (fun g1 => ?_) (fun g1 => ?_) <;> simp [go_sem] at g1 ⊢
  refine Do.skip ?_
  simp [go_sem]
  apply k3_; clear k3_
  refine Do.seqk fun _ k5_ => ?_
  refine Do.region [2,3,4,7,8,10] true ?_
  simp [go_sem]
  repeat (refine And.intro (by first | omega | (intros; omega) | (intros; exact And.intro (by assumption) (by omega)) | grind) ?_)
  refine DoL.call true 402 rfl rfl rfl rfl (by first | exact trivial | omega | (simp; done) | (simp; omega)) (hG) rfl (by first | exact .inl rfl | exact .inr rfl) rfl ?_
  simp [go_sem]
  apply k5_; clear k5_
  refine Do.seqk fun _ k6_ => ?_
  refine Do.seqk fun _ k7_ => ?_
  refine Do.region [2,3,4,7,8,10,14] true ?_
  simp [go_sem]
  repeat (refine And.intro (by first | omega | (intros; omega) | (intros; exact And.intro (by assumption) (by omega)) | grind) ?_)
  refine DoL.call true 502 rfl rfl rfl rfl (by first | exact trivial | omega | (simp; done) | (simp; omega)) (hL) rfl (by first | exact .inl rfl | exact .inr rfl) rfl ?_
  simp [go_sem]
  repeat (refine And.intro (by first | omega | (intros; omega) | (intros; exact And.intro (by assumption) (by omega)) | grind) ?_)
  apply k7_; clear k7_
  refine Do.seqk fun _ k8_ => ?_
  refine Do.region [2,3,4,7,8,10,66] true ?_
  simp [go_sem]
  repeat (refine And.intro (by first | omega | (intros; omega) | (intros; exact And.intro (by assumption) (by omega)) | grind) ?_)
  refine DoL.gOff true 616 rfl rfl (.int .i64 0) rfl ?_
  simp [go_sem]
  apply k8_; clear k8_
  refine Do.cond [2,3,4,7,8,10] rfl (fun g2 => ?_) (fun g2 => ?_) <;> simp [go_sem] at g2 ⊢
  refine Do.skip ?_
  simp [go_sem]
  apply k6_; clear k6_
  refine Do.seqk fun _ k9_ => ?_
  refine Do.region [2,3,4,7,8,18] true ?_
  simp [go_sem]
  repeat (refine And.intro (by first | omega | (intros; omega) | (intros; exact And.intro (by assumption) (by omega)) | grind) ?_)
  refine DoL.call true 803 rfl rfl rfl rfl (by first | exact trivial | omega | (simp; done) | (simp; omega)) (hS1) rfl (by first | exact .inl rfl | exact .inr rfl) rfl ?_
  simp [go_sem]
  apply k9_; clear k9_
  refine Do.seqk fun _ k10_ => ?_
  refine Do.seqk fun _ k11_ => ?_
  refine Do.region [2,3,4,7,8,18,73] true ?_
  simp [go_sem]
  repeat (refine And.intro (by first | omega | (intros; omega) | (intros; exact And.intro (by assumption) (by omega)) | grind) ?_)
  apply k11_; clear k11_
  refine Do.cond [2,3,4,7,8,18] rfl (fun g3 => ?_) (fun g3 => ?_) <;> simp [go_sem] at g3 ⊢
  refine Do.draw [3,4,7,8,18] true (by kernel_rfl) ?_
  simp [go_sem]
  repeat (refine And.intro (by first | omega | (intros; omega) | (intros; exact And.intro (by assumption) (by omega)) | kernel_rfl | grind) ?_)
  refine DoLD.call true 1006 rfl rfl rfl rfl (by first | exact trivial | omega | (simp; done) | (simp; omega)) (hN) rfl (by first | exact .inl rfl | exact .inr rfl) rfl ?_
  simp [go_sem]
  repeat (refine And.intro (by first | omega | (intros; omega) | (intros; exact And.intro (by assumption) (by omega)) | kernel_rfl | grind) ?_)
  refine DoLD.call true 1009 rfl rfl rfl rfl (by first | exact trivial | omega | (simp; done) | (simp; omega)) (hS2) rfl (by first | exact .inl rfl | exact .inr rfl) rfl ?_
  simp [go_sem]
  try (refine And.intro (by kernel_rfl) ?_)
  apply k10_; clear k10_
  refine Do.seqk fun _ k12_ => ?_
  refine Do.seqk fun _ k13_ => ?_
  refine Do.region [3,4,7,8,18,91] true ?_
  simp [go_sem]
  repeat (refine And.intro (by first | omega | (intros; omega) | (intros; exact And.intro (by assumption) (by omega)) | grind) ?_)
  apply k13_; clear k13_
  refine Do.cond [3,4,7,8,18] rfl (fun g4 => ?_) (fun g4 => ?_) <;> simp [go_sem] at g4 ⊢
  refine Do.draw [4,7,8] true (by kernel_rfl) ?_
  simp [go_sem]
  repeat (refine And.intro (by first | omega | (intros; omega) | (intros; exact And.intro (by assumption) (by omega)) | kernel_rfl | grind) ?_)
  refine DoLD.call true 1211 rfl rfl rfl rfl (by first | exact trivial | omega | (simp; done) | (simp; omega)) (hSh) rfl (by first | exact .inl rfl | exact .inr rfl) rfl ?_
  simp [go_sem]
  refine DoLD.call true 1213 rfl rfl rfl rfl (by first | exact trivial | omega | (simp; done) | (simp; omega)) (hA) rfl (by first | exact .inl rfl | exact .inr rfl) rfl ?_
  simp [go_sem]
  refine DoLD.call true 1215 rfl rfl rfl rfl (by first | exact trivial | omega | (simp; done) | (simp; omega)) (hM) rfl (by first | exact .inl rfl | exact .inr rfl) rfl ?_
  simp [go_sem]
  repeat (refine And.intro (by first | omega | (intros; omega) | (intros; exact And.intro (by assumption) (by omega)) | kernel_rfl | grind) ?_)
  try (refine And.intro (by kernel_rfl) ?_)
  apply k12_; clear k12_
  refine Do.seqk fun _ k14_ => ?_
  refine Do.region [4,5,6] true ?_
  simp [go_sem]
  repeat (refine And.intro (by first | omega | (intros; omega) | (intros; exact And.intro (by assumption) (by omega)) | grind) ?_)
  apply k14_; clear k14_
  refine Do.ret ?_
  simp [endQ, rets, ret1, go_sem]
  repeat (refine And.intro (by first | omega | (intros; omega) | (intros; exact And.intro (by assumption) (by omega)) | grind) ?_)
  exact TLe.refl _
theorem NoInt_does20 {z : Int} {n : Bool} {m : List Nat} (hm : Sh m) : Does Tryz.prog Gv 27 [.a [.b n, .w false m]] (.v (.c (.b (!n && decide (m = []))))) := by
  have hl : decide (((m.length : Nat) : Int) = 0) = decide (m = []) := by
    congr 1
    cases m <;> simp
    omega
  refine Does.of (nt := 12) Tryz.func27 rfl rfl rfl (by simp) ?_
  simp only [argTm, PV.ext, Ce.ext]
  refine Do.seqk fun _ k1_ => ?_
  refine Do.region [1] true ?_
  simp [go_sem]
  apply k1_; clear k1_
  refine Do.seqk fun _ k2_ => ?_
  refine Do.region [2] true ?_
  simp [go_sem]
  repeat (refine And.intro (by first | omega | (intros; omega) | (intros; exact And.intro (by assumption) (by omega)) | grind) ?_)
  apply k2_; clear k2_
  refine Do.ret ?_
  simp [endQ, rets, ret1, go_sem]
  repeat (refine And.intro (by first | omega | (intros; omega) | (intros; exact And.intro (by assumption) (by omega)) | grind) ?_)
  exact ret_b (by cases m with | nil => simp | cons a l => simp; intro _; omega)
theorem awk_conv : convP 8 24 5 11 0 ⟨1, false, 4, [4095]⟩ = (⟨2, false, 0, 0⟩, 5, 0) := by kernel_rfl
theorem awk_fit : fitP 5 11 8 24 = true := by kernel_rfl
theorem awk_toE : argsC 5 11 5 11 3 false ⟨1, true, -1, [1]⟩ = 0 := by kernel_rfl
theorem awk_toA : (holdsP 5 11 ⟨1, true, -1, 1⟩).1 = ⟨1, true, -1, 1⟩ := by kernel_rfl
theorem awk_toW : wholeP 3 ⟨true, 1, -1⟩ = (0, false) := by kernel_rfl
theorem awake20_does : Does Tryz.prog Gv 11 [] (.v (.c (.b true))) := by
  have o1 : (Fla.mk 1 false 4 [4095]).Ok := ⟨by simp [Sh], ws_one (by decide), by constructor <;> simp⟩
  have o2 : (Fla.mk 1 true (-1) [1]).Ok := ⟨by simp [Sh], ws_one (by decide), by constructor <;> simp⟩
  have h1 := Convert_does (f := 8) (p := 24) (g := 5) (q := 11) (r := 0) o1
  rw [awk_conv] at h1
  have h1 : Does Tryz.prog Gv 12 [Fm 8 24, Fm 5 11, .c (.i .i64 0), Fl 1 false 4 [4095]] (.t [Fl 2 false 0 (nat 0), .c (.i .i64 5), .c (.i .i64 0)]) := h1
  have h2 := @Fit_does20 5 11 8 24 rfl rfl
  rw [awk_fit] at h2
  have h3 := @ToInt_does 5 11 3 ⟨1, true, -1, [1]⟩ o2 awk_toE ⟨1, true, -1, 1⟩ awk_toA (.inr rfl) ⟨by decide, by decide⟩
  have h3 : Does Tryz.prog Gv 25 [Fm 5 11, .c (.i .i64 3), Fl 1 true (-1) [1]] (.t [Iv (sgn true (wholeP 3 ⟨true, 1, -1⟩).1), .c (.i .i64 (if (wholeP 3 ⟨true, 1, -1⟩).2 then 0 else 1)), .c (.i .i64 0)]) := h3
  rw [awk_toW] at h3
  have h3 : Does Tryz.prog Gv 25 [Fm 5 11, .c (.i .i64 3), Fl 1 true (-1) [1]] (.t [.a [.b false, .w false (nat 0)], .c (.i .i64 1), .c (.i .i64 0)]) := h3
  have h4 := Odd_awake
  have h4 : Does Tryz.prog Gv 20 [Fm 5 11, Qr false [2049] [1]] (.t [Fl 1 false 1 (nat 1025), .c (.i .i64 1), .c (.i .i64 0)]) := h4
  have h5 := @NoInt_does20 0 false [] (by decide)
  rw [nat_zero] at h1 h3
  rw [nat_word (by decide) (by decide)] at h4
  refine Does.of (nt := 107) Tryz.func11 rfl rfl rfl (by simp) ?_
  simp only [argTm, PV.ext, Ce.ext]
  refine Do.seqk fun _ k1_ => ?_
  refine Do.region [] true ?_
  simp [go_sem]
  apply k1_; clear k1_
  refine Do.seqk fun _ k2_ => ?_
  refine Do.region [1] true ?_
  simp [go_sem]
  repeat (refine And.intro (by first | omega | (intros; omega) | (intros; exact And.intro (by assumption) (by omega)) | grind) ?_)
  apply k2_; clear k2_
  refine Do.seqk fun _ k3_ => ?_
  refine Do.region [1,2] true ?_
  simp [go_sem]
  repeat (refine And.intro (by first | omega | (intros; omega) | (intros; exact And.intro (by assumption) (by omega)) | grind) ?_)
  apply k3_; clear k3_
  refine Do.seqk fun _ k4_ => ?_
  refine Do.region [1,2,3] true ?_
  simp [go_sem]
  repeat (refine And.intro (by first | omega | (intros; omega) | (intros; exact And.intro (by assumption) (by omega)) | grind) ?_)
  apply k4_; clear k4_
  refine Do.seqk fun _ k5_ => ?_
  refine Do.frz 300 rfl ?_
  refine Do.region [1,2,4,5,6] true ?_
  simp [go_sem]
  repeat (refine And.intro (by first | omega | (intros; omega) | (intros; exact And.intro (by assumption) (by omega)) | grind) ?_)
  refine DoL.call true 404 rfl rfl rfl rfl (by first | exact trivial | omega | (simp; done) | (simp; omega)) (h1) rfl (by first | exact .inl rfl | exact .inr rfl) rfl ?_
  simp [go_sem]
  repeat (refine And.intro (by first | omega | (intros; omega) | (intros; exact And.intro (by assumption) (by omega)) | grind) ?_)
  apply k5_; clear k5_
  refine Do.seqk fun _ k6_ => ?_
  refine Do.region [1,4,5,6,7,8] true ?_
  simp [go_sem]
  repeat (refine And.intro (by first | omega | (intros; omega) | (intros; exact And.intro (by assumption) (by omega)) | grind) ?_)
  refine DoL.call true 503 rfl rfl rfl rfl (by first | exact trivial | omega | (simp; done) | (simp; omega)) (h2) rfl (by first | exact .inl rfl | exact .inr rfl) rfl ?_
  simp [go_sem]
  apply k6_; clear k6_
  refine Do.seqk fun _ k7_ => ?_
  refine Do.region [1,4,5,6,7,8,9,10,11] true ?_
  simp [go_sem]
  repeat (refine And.intro (by first | omega | (intros; omega) | (intros; exact And.intro (by assumption) (by omega)) | grind) ?_)
  refine DoL.frz true 603 601 rfl ?_
  simp [go_sem]
  refine DoL.call true 604 rfl rfl rfl rfl (by first | exact trivial | omega | (simp; done) | (simp; omega)) (h3) rfl (by first | exact .inl rfl | exact .inr rfl) rfl ?_
  simp [go_sem]
  repeat (refine And.intro (by first | omega | (intros; omega) | (intros; exact And.intro (by assumption) (by omega)) | grind) ?_)
  apply k7_; clear k7_
  refine Do.seqk fun _ k8_ => ?_
  refine Do.region [4,5,6,7,8,9,10,11,12,13,14] true ?_
  simp [go_sem]
  repeat (refine And.intro (by first | omega | (intros; omega) | (intros; exact And.intro (by assumption) (by omega)) | grind) ?_)
  refine DoL.frz true 705 701 rfl ?_
  simp [go_sem]
  refine DoL.frz true 705 703 rfl ?_
  simp [go_sem]
  refine DoL.call true 706 rfl rfl rfl rfl (by first | exact trivial | omega | (simp; done) | (simp; omega)) (h4) rfl (by first | exact .inl rfl | exact .inr rfl) rfl ?_
  simp [go_sem]
  repeat (refine And.intro (by first | omega | (intros; omega) | (intros; exact And.intro (by assumption) (by omega)) | grind) ?_)
  apply k8_; clear k8_
  refine Do.seqk fun _ k9_ => ?_
  refine Do.region [0] true ?_
  simp [go_sem]
  repeat (refine And.intro (by first | omega | (intros; omega) | (intros; exact And.intro (by assumption) (by omega)) | grind) ?_)
  refine DoL.callg true 829 rfl rfl rfl rfl rfl (by simp [go_sem] <;> omega) (fun _ => h5) rfl (by first | exact .inl rfl | exact .inr rfl) rfl ?_
  simp [go_sem]
  repeat (refine And.intro (by first | omega | (intros; omega) | (intros; exact And.intro (by assumption) (by omega)) | grind) ?_)
  apply k9_; clear k9_
  refine Do.ret ?_
  simp [endQ, rets, ret1, go_sem]
  repeat (refine And.intro (by first | omega | (intros; omega) | (intros; exact And.intro (by assumption) (by omega)) | grind) ?_)
  exact TLe.refl _
end Go.Proofs.YtokgalpflooegaaGreatDoor
/- The law ConvertFormats. No condition. -/
namespace Go.Proofs.YtokgalpflooegaaGreatDoor
set_option linter.unusedVariables false
set_option linter.unusedSimpArgs false
set_option maxHeartbeats 4000000
set_option maxRecDepth 10000
theorem held_fine20 {f p : Int} (hf : fmOk f p = true) {x : Flt} (h : (holdsP f p x).2 = true) : Fine (holdsP f p x).1 ∧ rcanon (holdsP f p x).1 = (holdsP f p x).1 := by
  have hc := held_canon h
  refine ⟨⟨by rw [hc], ?_⟩, by rw [← (held_rcanon h).1]; exact rcanon_idem _⟩
  by_cases hk : (holdsP f p x).1.k = 1
  · have := holdsP_bound hf h hk
    have h2 := held_fin20 h hk
    obtain ⟨b1, b2, b3, b4⟩ := fmOk_spec hf
    omega
  · have h3 := rcanon_idem x
    rw [(held_rcanon h).1] at h3
    unfold rcanon at h3
    rw [if_neg hk] at h3
    rw [← h3]; simp [bl_zero]
end Go.Proofs.YtokgalpflooegaaGreatDoor
/- The law ConvertLarge. No condition. -/
namespace Go.Proofs.YtokgalpflooegaaGreatDoor
set_option linter.unusedVariables false
set_option linter.unusedSimpArgs false
set_option maxHeartbeats 4000000
set_option maxRecDepth 10000
section
variable {f p r : Int} {x : Fla}
end
end Go.Proofs.YtokgalpflooegaaGreatDoor
/- A rational number of the reference, rounded to an integer. No condition. -/
namespace Go.Proofs.YtokgalpflooegaaGreatDoor
set_option linter.unusedVariables false
set_option linter.unusedSimpArgs false
variable {G : Gl}
set_option maxHeartbeats 4000000
set_option maxRecDepth 10000
theorem RRatio_does {a d : Nat} (ha : bl a ≤ 50000000) (hd : bl d ≤ 50000000) (h0 : 0 < d) : Does Tryz.prog G 148 [Wd (nat a), Wd (nat d)] (.v (Pt (a * 2 / d / 2) (decide (a * 2 / d % 2 = 1)) (!decide (a * 2 % d = 0)))) := by
  have la := len_bl ha
  have ld := len_bl hd
  have h1 := @RLeft_does G (nat a) 1 (by omega) (nat_ws _) (by decide)
  rw [val_nat, Nat.pow_one] at h1
  have hb : bl (a * 2) ≤ 50000002 := by
    have := bl_mulN a 2
    have : bl 2 = 2 := by decide
    omega
  have l2 := len_bl hb
  have h2 := @RDivMod_does G (nat (a * 2)) (nat d) (by omega) (nat_ws _) (by omega) (nat_ws _) (by rw [val_nat]; exact h0)
  rw [val_nat, val_nat] at h2
  have l3 := len_bl (Nat.le_trans (bl_mono (Nat.div_le_self (a * 2) d)) hb)
  have l4 := len_bl (Nat.le_trans (bl_mono (Nat.mod_le (a * 2) d)) hb)
  have h3 := @RRight_does G (nat (a * 2 / d)) 1 (by omega) (nat_ws _) (by decide)
  have h4 := @RBit_does G (nat (a * 2 / d)) (by omega) (nat_ws _) 0 (by constructor <;> decide)
  have h5 := @IsZero_does G (nat (a * 2 % d)) (by omega) (nat_ws _)
  rw [val_nat] at h3 h4 h5
  simp only [Nat.pow_one, Int.toNat_zero, Nat.pow_zero, Nat.div_one, decide_true, Bool.true_and, Int.le_refl] at h3 h4 h5
  generalize a * 2 / d = q at *
  generalize a * 2 % d = w at *
  generalize a * 2 = a2 at *
  refine Does.of (nt := 22) Tryz.func148 rfl rfl rfl (by simp) ?_
  simp only [argTm, PV.ext, Ce.ext]
  refine Do.seqk fun _ k1_ => ?_
  refine Do.region [0,1,4] true ?_
  simp [go_sem]
  apply k1_; clear k1_
  refine Do.seqk fun _ k2_ => ?_
  refine Do.region [4,5,6] true ?_
  simp [go_sem]
  refine DoL.call true 102 rfl rfl rfl rfl (by first | exact trivial | omega | (simp; done) | (simp; omega)) (h1) rfl (by first | exact .inl rfl | exact .inr rfl) rfl ?_
  simp [go_sem]
  refine DoL.call true 104 rfl rfl rfl rfl (by first | exact trivial | omega | (simp; done) | (simp; omega)) (h2) rfl (by first | exact .inl rfl | exact .inr rfl) rfl ?_
  simp [go_sem]
  apply k2_; clear k2_
  refine Do.seqk fun _ k3_ => ?_
  refine Do.region [4] true ?_
  simp [go_sem]
  refine DoL.call true 202 rfl rfl rfl rfl (by first | exact trivial | omega | (simp; done) | (simp; omega)) (h3) rfl (by first | exact .inl rfl | exact .inr rfl) rfl ?_
  simp [go_sem]
  refine DoL.call true 204 rfl rfl rfl rfl (by first | exact trivial | omega | (simp; done) | (simp; omega)) (h4) rfl (by first | exact .inl rfl | exact .inr rfl) rfl ?_
  simp [go_sem]
  refine DoL.call true 206 rfl rfl rfl rfl (by first | exact trivial | omega | (simp; done) | (simp; omega)) (h5) rfl (by first | exact .inl rfl | exact .inr rfl) rfl ?_
  simp [go_sem]
  repeat (refine And.intro (by first | omega | (intros; omega) | (intros; exact And.intro (by assumption) (by omega)) | grind) ?_)
  apply k3_; clear k3_
  refine Do.ret ?_
  simp [endQ, rets, ret1, go_sem]
  repeat (refine And.intro (by first | omega | (intros; omega) | (intros; exact And.intro (by assumption) (by omega)) | grind) ?_)
  exact pt_le (PLe.ext (.c (.w true _)))
theorem sv_nat (x : Nu) (z : Int) : (x.sv z).natAbs = x.v * 2 ^ (x.e - z).toNat := by
  unfold Nu.sv
  generalize x.v * 2 ^ (x.e - z).toNat = u
  split <;> omega
theorem whole_ratio {x : Nu} {K : Nat} {z : Int} {d : Nat} (hK : -(K : Int) ≤ x.e) (hD : Dq K z d (x.sv (-K))) :
    z.natAbs * 2 / d / 2 = (cutP x.v (-x.e) false).1 ∧ pcode (decide (z.natAbs * 2 / d % 2 = 1)) (!decide (z.natAbs * 2 % d = 0)) = (cutP x.v (-x.e) false).2 := by
  have h1 : z.natAbs * 2 ^ K = x.v * 2 ^ (x.e - -(K : Int)).toNat * d := by
    have := congrArg Int.natAbs hD.eq
    rw [Int.natAbs_mul, Int.natAbs_mul, sv_nat] at this
    exact this
  have hd := hD.pos
  have hP : 0 < 2 ^ K := Nat.pow_pos (by decide)
  have hmul : z.natAbs * 2 * 2 ^ K = x.v * 2 ^ (x.e - -(K : Int)).toNat * 2 * d := by
    rw [Nat.mul_right_comm, h1, Nat.mul_right_comm]
  have e1 : z.natAbs * 2 / d = x.v * 2 ^ (x.e - -(K : Int)).toNat * 2 / 2 ^ K := by
    rw [← Nat.mul_div_mul_right (z.natAbs * 2) d hP, hmul, Nat.mul_comm d (2 ^ K), Nat.mul_div_mul_right _ _ hd]
  have e2 : z.natAbs * 2 % d = 0 ↔ x.v * 2 ^ (x.e - -(K : Int)).toNat * 2 % 2 ^ K = 0 := by
    have a1 := Nat.mul_mod_mul_right (2 ^ K) (z.natAbs * 2) d
    have a2 := Nat.mul_mod_mul_right d (x.v * 2 ^ (x.e - -(K : Int)).toNat * 2) (2 ^ K)
    rw [hmul, Nat.mul_comm d (2 ^ K), a2] at a1
    constructor
    · intro h
      rw [h, Nat.zero_mul] at a1
      rcases Nat.mul_eq_zero.1 a1 with h | h
      · exact h
      · omega
    · intro h
      rw [h, Nat.zero_mul] at a1
      rcases Nat.mul_eq_zero.1 a1.symm with h | h
      · exact h
      · omega
  rw [e1]
  simp only [e2]
  clear e1 e2 hmul h1 hD
  unfold cutP
  by_cases he : 0 ≤ x.e
  · rw [if_pos (by omega)]
    simp only []
    have e3 : x.v * 2 ^ (x.e - -(K : Int)).toNat * 2 = x.v * 2 ^ x.e.toNat * 2 * 2 ^ K := by
      rw [show (x.e - -(K : Int)).toNat = x.e.toNat + K by omega, Nat.pow_add, ← Nat.mul_assoc, Nat.mul_right_comm]
    rw [e3, Nat.mul_div_cancel _ hP, Nat.mul_mod_left, show (- -x.e).toNat = x.e.toNat by omega]
    refine ⟨Nat.mul_div_cancel _ (by decide), ?_⟩
    rw [Nat.mul_mod_left]
    rfl
  · rw [if_neg (by omega)]
    simp only []
    obtain ⟨s, hs⟩ : ∃ s : Nat, x.e = -((s : Int) + 1) := ⟨(-x.e - 1).toNat, by omega⟩
    have hsK : s + 1 ≤ K := by omega
    rw [show (x.e - -(K : Int)).toNat = K - (s + 1) by omega, show (-x.e).toNat = s + 1 by omega, show (-x.e - 1).toNat = s by omega]
    have e3 : x.v * 2 ^ (K - (s + 1)) * 2 = x.v * 2 ^ (K - s) := by
      rw [Nat.mul_assoc, ← Nat.pow_succ]; congr 2; omega
    have e4 : 2 ^ K = 2 ^ s * 2 ^ (K - s) := by rw [← Nat.pow_add]; congr 1; omega
    have hQ : 0 < 2 ^ (K - s) := Nat.pow_pos (by decide)
    rw [e3, e4, Nat.mul_div_mul_right _ _ hQ, Nat.mul_mod_mul_right]
    have e5 : x.v % 2 ^ s * 2 ^ (K - s) = 0 ↔ x.v % 2 ^ s = 0 := by
      constructor
      · intro h
        rcases Nat.mul_eq_zero.1 h with h | h
        · exact h
        · omega
      · intro h; rw [h, Nat.zero_mul]
    simp only [e5]
    refine ⟨by rw [Nat.div_div_eq_div_mul, ← Nat.pow_succ], ?_⟩
    by_cases g1 : x.v / 2 ^ s % 2 = 1 <;> by_cases g2 : x.v % 2 ^ s = 0 <;> simp [g1, g2, pcode]
theorem cut_none (s : Int) : cutP 0 s false = (0, 0) := by
  unfold cutP
  split <;> simp
theorem whole_sign (r : Int) (x : Nu) (z : Int) : upP r (decide (x.sv z < 0)) (cutP x.v (-x.e) false).1 (cutP x.v (-x.e) false).2 = (wholeP r x).1 ∧ sgn (decide (x.sv z < 0)) (wholeP r x).1 = sgn x.n (wholeP r x).1 := by
  unfold wholeP
  simp only []
  by_cases hv : x.v = 0
  · rw [hv, cut_none]
    simp only [upP_none]
    refine ⟨trivial, ?_⟩
    unfold sgn
    split <;> split <;> rfl
  · have h : decide (x.sv z < 0) = x.n := by
      have hp : 0 < x.v * 2 ^ (x.e - z).toNat := Nat.mul_pos (Nat.pos_of_ne_zero hv) (Nat.pow_pos (by decide))
      unfold Nu.sv
      generalize x.v * 2 ^ (x.e - z).toNat = u at *
      cases x.n
      · simp
      · simp; omega
    rw [h]
    exact ⟨rfl, rfl⟩
theorem whole_code (r : Int) (x : Nu) {h s : Bool} (e : pcode h s = (cutP x.v (-x.e) false).2) : (pcode h s == 0) = (wholeP r x).2 := by
  rw [e]; unfold wholeP; simp only []
  cases hh : decide ((cutP x.v (-x.e) false).2 = 0) <;> simp_all
theorem wholeP_bl (r : Int) (x : Nu) : bl (wholeP r x).1 ≤ bl x.v + x.e.toNat + 1 := by
  unfold wholeP
  have h1 := cutP_bl x.v (-x.e) false
  have h2 := upP_bl r x.n (cutP x.v (-x.e) false).1 (cutP x.v (-x.e) false).2
  rw [Int.neg_neg] at h1
  simp only []
  omega
theorem RInteger_does {r : Int} (hr : 0 ≤ r) (hr' : r ≤ 4) {x : Nu} {K : Nat} {z : Int} {d : Nat} (hK : K ≤ 8000000) (hKe : -(K : Int) ≤ x.e) (hD : Dq K z d (x.sv (-K))) (hb : bl (x.sv (-K)).natAbs ≤ 20000000) : Does Tryz.prog G 84 [.c (.i .i64 r), Qv z d] (.t [Iv (sgn x.n (wholeP r x).1), .c (.b (wholeP r x).2)]) := by
  obtain ⟨s1, s2, s3⟩ := hD.small
  have hN := @QNorm G z d (by omega) (by omega) hD.pos
  have hD2 := Dq.norm hD.eq hD.pos
  generalize nz z d = z' at *
  generalize nd z d = d' at *
  obtain ⟨t1, t2, t3⟩ := hD2.small
  obtain ⟨w1, w2⟩ := whole_ratio hKe hD2
  obtain ⟨v1, v2⟩ := whole_sign r x (-K)
  have v3 := whole_code r x w2
  have hQ := @IvSign G z' (by omega)
  have hsg : decide (z'.sign < 0) = decide (x.sv (-(K : Int)) < 0) := by
    rw [hD2.sign]
    congr 1
    apply propext
    rw [Int.sign_neg_iff]
  have hz0 : decide (z' < 0) = decide (x.sv (-(K : Int)) < 0) := by
    rw [← hsg]
    congr 1
    apply propext
    rw [Int.sign_neg_iff]
  have hR := @RRatio_does G z'.natAbs d' (by omega) (by omega) hD2.pos
  rw [w1] at hR
  have hcb : bl (cutP x.v (-x.e) false).1 ≤ 40000002 := by
    rw [← w1]
    have a1 := bl_mono (Nat.div_le_self (z'.natAbs * 2 / d') 2)
    have a2 := bl_mono (Nat.div_le_self (z'.natAbs * 2) d')
    have a3 := bl_mulN z'.natAbs 2
    have : bl 2 = 2 := by decide
    omega
  have hU := @Rounded_does G r hr hr' (decide (x.sv (-(K : Int)) < 0)) (decide (z'.natAbs * 2 / d' % 2 = 1)) (!decide (z'.natAbs * 2 % d' = 0)) (cutP x.v (-x.e) false).1 (by omega)
  rw [v3, w2, v1] at hU
  have hub : bl (wholeP r x).1 ≤ 40000003 := by
    have := upP_bl r x.n (cutP x.v (-x.e) false).1 (cutP x.v (-x.e) false).2
    have e : (wholeP r x).1 = upP r x.n (cutP x.v (-x.e) false).1 (cutP x.v (-x.e) false).2 := rfl
    rw [e]; omega
  have hM := @IvMake G (decide (x.sv (-(K : Int)) < 0)) (wholeP r x).1 (by omega)
  rw [v2] at hM
  have hN : Does Tryz.prog G 106 [Qv z d] (.v (.a [.b (decide (x.sv (-(K : Int)) < 0)), .w false (nat z'.natAbs), .w false (nat d')])) := by
    rw [← hz0]; exact hN
  have hQ : Does Tryz.prog G 131 [.a [.b (decide (x.sv (-(K : Int)) < 0)), .w false (nat z'.natAbs), .w false (nat d')]] (.int .i64 z'.sign) := by
    have h := @QSign G K z' (x.sv (-(K : Int))) d' hD2 hb
    rw [← hD2.sign] at h
    rw [← hz0]; exact h
  clear hD hD2 v1 v2 v3 w1 w2
  generalize decide (x.sv (-(K : Int)) < 0) = bb at *
  generalize decide (z'.natAbs * 2 / d' % 2 = 1) = b1 at *
  generalize (!decide (z'.natAbs * 2 % d' = 0)) = b2 at *
  generalize (cutP x.v (-x.e) false).1 = c1 at *
  generalize sgn x.n (wholeP r x).1 = Z at *
  generalize (wholeP r x).1 = W1 at *
  generalize (wholeP r x).2 = W2 at *
  generalize z'.sign = sg at *
  refine Does.of (nt := 30) Tryz.func84 rfl rfl rfl (by simp) ?_
  simp only [argTm, PV.ext, Ce.ext]
  refine Do.seqk fun _ k1_ => ?_
  refine Do.region [0,3,4] true ?_
  simp [go_sem]
  apply k1_; clear k1_
  refine Do.seqk fun _ k2_ => ?_
  refine Do.region [0,3,4] true ?_
  simp [go_sem]
  repeat (refine And.intro (by first | omega | (intros; omega) | (intros; exact And.intro (by assumption) (by omega)) | grind) ?_)
  refine DoL.call true 102 rfl rfl rfl rfl (by first | exact trivial | omega | (simp; done) | (simp; omega)) (hN) rfl (by first | exact .inl rfl | exact .inr rfl) rfl ?_
  simp [go_sem]
  repeat (refine And.intro (by first | omega | (intros; omega) | (intros; exact And.intro (by assumption) (by omega)) | grind) ?_)
  apply k2_; clear k2_
  refine Do.seqk fun _ k3_ => ?_
  refine Do.draw [3,4,6,7] true (by kernel_rfl) ?_
  simp [go_sem]
  repeat (refine And.intro (by first | omega | (intros; omega) | (intros; exact And.intro (by assumption) (by omega)) | kernel_rfl | grind) ?_)
  refine DoLD.call true 203 rfl rfl rfl rfl (by first | exact trivial | omega | (simp; done) | (simp; omega)) (hQ) rfl (by first | exact .inl rfl | exact .inr rfl) rfl ?_
  simp [go_sem]
  repeat (refine And.intro (by first | omega | (intros; omega) | (intros; exact And.intro (by assumption) (by omega)) | kernel_rfl | grind) ?_)
  refine DoLD.call true 210 rfl rfl rfl rfl (by first | exact trivial | omega | (simp; done) | (simp; omega)) (hR) rfl (by first | exact .inl rfl | exact .inr rfl) rfl ?_
  simp [go_sem, hsg]
  refine DoLD.call true 211 rfl rfl rfl rfl (by first | exact trivial | omega | (simp; done) | (simp; omega)) (hU) rfl (by first | exact .inl rfl | exact .inr rfl) rfl ?_
  simp [go_sem, hsg]
  try (refine And.intro (by kernel_rfl) ?_)
  apply k3_; clear k3_
  refine Do.seqk fun _ k4_ => ?_
  refine Do.region [4,5] true ?_
  simp [go_sem, hsg]
  repeat (refine And.intro (by first | omega | (intros; omega) | (intros; exact And.intro (by assumption) (by omega)) | grind) ?_)
  refine DoL.call true 305 rfl rfl rfl rfl (by first | exact trivial | omega | (simp; done) | (simp; omega)) (hM) rfl (by first | exact .inl rfl | exact .inr rfl) rfl ?_
  simp [go_sem, hsg]
  repeat (refine And.intro (by first | omega | (intros; omega) | (intros; exact And.intro (by assumption) (by omega)) | grind) ?_)
  apply k4_; clear k4_
  refine Do.ret ?_
  simp [endQ, rets, ret1, go_sem, hsg]
  repeat (refine And.intro (by first | omega | (intros; omega) | (intros; exact And.intro (by assumption) (by omega)) | grind) ?_)
  exact TLe.refl _
theorem fv_sv {a : Flt} (hf : rcanon a = a) (hk : a.k = 0 ∨ a.k = 1) (z : Int) : fv z a = (Nu.mk a.n a.v a.e).sv z := by
  unfold fv
  split
  · rfl
  · rename_i h
    have h0 : a.v = 0 := by
      unfold rcanon at hf
      rw [if_neg h] at hf
      have := congrArg Flt.v hf
      simpa using this.symm
    unfold Nu.sv
    simp [h0]
theorem RToInt_does {r : Int} (hr : 0 ≤ r) (hr' : r ≤ 4) {x : Fla} (hx : Rt x) {a : Flt} (ha : rcanon x.flt = a) (hk : a.k = 0 ∨ a.k = 1) : Does Tryz.prog G 28 [.c (.i .i64 r), Fl x.k x.n x.e x.m] (.t [Iv (sgn a.n (wholeP r ⟨a.n, a.v, a.e⟩).1), .c (.i .i64 (if (wholeP r ⟨a.n, a.v, a.e⟩).2 then 0 else 1))]) := by
  obtain ⟨z, d, h1, h2, h3⟩ := @FRatK G x hx
  have hfv : fv (-(1048576 : Nat)) x.flt = fv (-(1048576 : Nat)) a := by
    rw [← ha]; exact (@fv_rcan x.flt (-(1048576 : Nat)) (fun hk => (canon_one hx.can hk).1)).symm
  have hfix : rcanon a = a := by rw [← ha]; exact rcanon_idem _
  have hae : -((1048576 : Nat) : Int) ≤ a.e := by
    rcases hk with hk | hk
    · unfold rcanon at hfix
      rw [if_neg (by omega)] at hfix
      have := congrArg Flt.e hfix
      simp only [] at this
      omega
    · have hc := canon_rc hx.can
      rw [ha] at hc
      exact (canon_one hc hk).1
  rw [hfv, fv_sv hfix hk] at h2 h3
  have hI := @RInteger_does G r hr hr' ⟨a.n, a.v, a.e⟩ 1048576 z d (by decide) hae h2 (by omega)
  simp only [] at hI
  generalize sgn a.n (wholeP r ⟨a.n, a.v, a.e⟩).1 = Z at *
  generalize (wholeP r ⟨a.n, a.v, a.e⟩).2 = W at *
  cases W with
  | false =>
    refine Does.of (nt := 19) Tryz.func28 rfl rfl rfl (by simp) ?_
    simp only [argTm, PV.ext, Ce.ext]
    refine Do.seqk fun _ k1_ => ?_
    refine Do.region [0,3,4] true ?_
    simp [go_sem]
    apply k1_; clear k1_
    refine Do.seqk fun _ k2_ => ?_
    refine Do.region [4,6,7] true ?_
    simp [go_sem]
    repeat (refine And.intro (by first | omega | (intros; omega) | (intros; exact And.intro (by assumption) (by omega)) | grind) ?_)
    refine DoL.call true 103 rfl rfl rfl rfl (by first | exact trivial | omega | (simp; done) | (simp; omega)) (h1) rfl (by first | exact .inl rfl | exact .inr rfl) rfl ?_
    simp [go_sem]
    refine DoL.call true 104 rfl rfl rfl rfl (by first | exact trivial | omega | (simp; done) | (simp; omega)) (hI) rfl (by first | exact .inl rfl | exact .inr rfl) rfl ?_
    simp [go_sem]
    repeat (refine And.intro (by first | omega | (intros; omega) | (intros; exact And.intro (by assumption) (by omega)) | grind) ?_)
    apply k2_; clear k2_
    refine Do.seqk fun _ k3_ => ?_
    refine Do.seqk fun _ k4_ => ?_
    refine Do.region [4,6,16] true ?_
    simp [go_sem]
    repeat (refine And.intro (by first | omega | (intros; omega) | (intros; exact And.intro (by assumption) (by omega)) | grind) ?_)
    apply k4_; clear k4_
    refine Do.cond [4,6] rfl (fun g => ?_) (fun g => ?_) <;> simp [go_sem] at g ⊢
    refine Do.seqk fun _ k5_ => ?_
    refine Do.region [4,5] true ?_
    simp [go_sem]
    repeat (refine And.intro (by first | omega | (intros; omega) | (intros; exact And.intro (by assumption) (by omega)) | grind) ?_)
    apply k5_; clear k5_
    refine Do.ret ?_
    simp [endQ, rets, ret1, go_sem]
    repeat (refine And.intro (by first | omega | (intros; omega) | (intros; exact And.intro (by assumption) (by omega)) | grind) ?_)
    exact TLe.refl _
  | true =>
    refine Does.of (nt := 19) Tryz.func28 rfl rfl rfl (by simp) ?_
    simp only [argTm, PV.ext, Ce.ext]
    refine Do.seqk fun _ k1_ => ?_
    refine Do.region [0,3,4] true ?_
    simp [go_sem]
    apply k1_; clear k1_
    refine Do.seqk fun _ k2_ => ?_
    refine Do.region [4,6,7] true ?_
    simp [go_sem]
    repeat (refine And.intro (by first | omega | (intros; omega) | (intros; exact And.intro (by assumption) (by omega)) | grind) ?_)
    refine DoL.call true 103 rfl rfl rfl rfl (by first | exact trivial | omega | (simp; done) | (simp; omega)) (h1) rfl (by first | exact .inl rfl | exact .inr rfl) rfl ?_
    simp [go_sem]
    refine DoL.call true 104 rfl rfl rfl rfl (by first | exact trivial | omega | (simp; done) | (simp; omega)) (hI) rfl (by first | exact .inl rfl | exact .inr rfl) rfl ?_
    simp [go_sem]
    repeat (refine And.intro (by first | omega | (intros; omega) | (intros; exact And.intro (by assumption) (by omega)) | grind) ?_)
    apply k2_; clear k2_
    refine Do.seqk fun _ k3_ => ?_
    refine Do.seqk fun _ k4_ => ?_
    refine Do.region [4,6,16] true ?_
    simp [go_sem]
    repeat (refine And.intro (by first | omega | (intros; omega) | (intros; exact And.intro (by assumption) (by omega)) | grind) ?_)
    apply k4_; clear k4_
    refine Do.cond [4,6] rfl (fun g => ?_) (fun g => ?_) <;> simp [go_sem] at g ⊢
    refine Do.skip ?_
    simp [go_sem]
    apply k3_; clear k3_
    refine Do.seqk fun _ k5_ => ?_
    refine Do.region [4,5] true ?_
    simp [go_sem]
    repeat (refine And.intro (by first | omega | (intros; omega) | (intros; exact And.intro (by assumption) (by omega)) | grind) ?_)
    apply k5_; clear k5_
    refine Do.ret ?_
    simp [endQ, rets, ret1, go_sem]
    repeat (refine And.intro (by first | omega | (intros; omega) | (intros; exact And.intro (by assumption) (by omega)) | grind) ?_)
    exact TLe.refl _
end Go.Proofs.YtokgalpflooegaaGreatDoor
/- The law ConvertIntegrals. No condition. -/
namespace Go.Proofs.YtokgalpflooegaaGreatDoor
set_option linter.unusedVariables false
set_option linter.unusedSimpArgs false
set_option maxHeartbeats 4000000
set_option maxRecDepth 10000
section
variable {f p r : Int} {x : Fla} {a : Flt}
end
end Go.Proofs.YtokgalpflooegaaGreatDoor
/- The field of a value, under a test that holds, in a region whose order is open. No condition. -/
namespace Go.Proofs.YtokgalpflooegaaGreatDoor
set_option linter.unusedVariables false
set_option linter.unusedSimpArgs false
section
variable {P : Program} {G : Gl} {nt : Nat} {st st0 : St} {ops l : List Oper} {acc : List Sm} {Q : List Sm → St → Prop} {o : Oper} {j : Nat} {want : Bool}
theorem DoLD.field0 (md : Bool) (lab : Nat) (hg : o.guard = some (j, want)) (hgo : gOf ops st.tm j want = some true) {t s : Nat} {c0 c1 : Ce} (hop : o.op = .field t (.tmp s) 0) (hs : lk s st.tm = some (.gd true (.v (.a [c0, c1])))) (hm : s ∈ rdOf ops o) (hF : ∀ a b W, (Instr.field t (.agg #[a, b]) 0).run P W = .ok a W)
    (hx : (TV.gd true (.v (.c c0))).labs = []) (hd : dstOk nt o.dst = true) (next : runsD P G nt md ops st0 Q lab l (acc ++ [⟨[], [], [], none⟩]) ⟨setv o.dst (some (.gd true (.v (.c c0)))) st.tm, st.ob⟩) : DoLD P G nt ops st0 Q (o :: l) acc st := by
  have h : OpOk P G nt ops (boxes st0.ob) o st ⟨o.dst, some (.gd true (.v (.c c0))), .none, 0, []⟩ := by
    refine ⟨rfl, fun cx a W m S hn _ hrd hus hfree hr Q' K hK => ?_⟩
    rw [gOf_spec hr ((gOf_congr hg hrd).trans hgo) hg, if_pos rfl]
    have hsS : opv S.tm (.tmp s) = some (.gd true (.v (.a [c0, c1]))) := by
      show lk s S.tm = _
      rw [hrd s hm]; exact hs
    have hrt := hr.opv hsS
    obtain ⟨vs, e1, h2⟩ := hrt.1 rfl
    obtain ⟨v0, r0, e2, a0, h2⟩ := h2.cons_iff
    obtain ⟨v1, r1, rfl, a1, h2⟩ := h2.cons_iff
    cases h2
    have e3 : vs = #[v0, v1] := Array.toList_inj.1 (by rw [e2])
    subst e3
    unfold Oper.wp
    have hexec : (execOp a.eval o).run P W = .ok (.value v0) W := by
      simp [execOp, hop, e1, hF]
    rw [hexec]
    exact hK _ _ (Rel.put hr hn hd (show RT _ (.gd true (.v (.c c0))) v0 from ⟨fun _ => a0, fun e => by cases e⟩))
  refine DoLD.cons h (fun l hl => by simp [Tr.nw, Eff.isNew] at hl) rfl ?_
  have e1 : Tr.sm ⟨o.dst, some (.gd true (.v (.c c0))), .none, 0, []⟩ = ⟨[], [], [], none⟩ := by
    simp [Tr.sm, Tr.wr, Tr.mn, Tr.nw, Tr.ob, Eff.isNew, hx]
  rw [e1]
  exact DoLD.run next
end
theorem int_field : ∀ a b W, (Instr.field 48 (.agg #[a, b]) 0).run Tryz.prog W = .ok a W := fun a b W => by kernel_rfl
end Go.Proofs.YtokgalpflooegaaGreatDoor
/- Integers that are alike. No condition. -/
namespace Go.Proofs.YtokgalpflooegaaGreatDoor
set_option linter.unusedVariables false
set_option linter.unusedSimpArgs false
variable {G : Gl}
set_option maxHeartbeats 4000000
set_option maxRecDepth 10000
theorem cn_top : ∀ {l : List Nat}, norm l = l → l ≠ [] → ∃ w, l[l.length - 1]? = some w ∧ w ≠ 0
  | [], _, h => absurd rfl h
  | w :: l, hn, _ => by
    rw [norm_cons] at hn
    split at hn
    · cases hn
    · rename_i hc
      have hl : norm l = l := (List.cons.inj hn).2
      by_cases h0 : l = []
      · subst h0
        exact ⟨w, by simp, fun h => hc ⟨hl, h⟩⟩
      · obtain ⟨u, h1, h2⟩ := cn_top hl h0
        refine ⟨u, ?_, h2⟩
        obtain ⟨k, hk⟩ : ∃ k, l.length = k + 1 := ⟨l.length - 1, by have := List.length_pos_iff.2 h0; omega⟩
        rw [List.length_cons, Nat.add_sub_cancel, hk, List.getElem?_cons_succ]
        rw [hk, Nat.add_sub_cancel] at h1
        exact h1
theorem RCanon_does {v : Nat} (hl : (nat v).length ≤ 1073741824) : Does Tryz.prog G 180 [Wd (nat v)] (.v (.c (.b true))) := by
  by_cases h0 : nat v = []
  · rw [h0]
    refine Does.of (nt := 15) Tryz.func180 rfl rfl rfl (by simp) ?_
    simp only [argTm, PV.ext, Ce.ext]
    refine Do.seqk fun _ k1_ => ?_
    refine Do.region [0] true ?_
    simp [go_sem]
    apply k1_; clear k1_
    refine Do.seqk fun _ k2_ => ?_
    refine Do.region [2] true ?_
    simp [go_sem]
    repeat (refine And.intro (by first | omega | (intros; omega) | (intros; exact And.intro (by assumption) (by omega)) | grind) ?_)
    apply k2_; clear k2_
    refine Do.ret ?_
    simp [endQ, rets, ret1, go_sem]
    repeat (refine And.intro (by first | omega | (intros; omega) | (intros; exact And.intro (by assumption) (by omega)) | grind) ?_)
    exact TLe.refl _
  · obtain ⟨w, h1, h2⟩ := cn_top (nat_cn v) h0
    have hlen := List.length_pos_iff.2 h0
    generalize nat v = l at *
    obtain ⟨k, hk⟩ : ∃ k, l.length = k + 1 := ⟨l.length - 1, by omega⟩
    rw [hk, Nat.add_sub_cancel] at h1
    have hg : ∀ h : k < l.length, l[k]'h = w := fun h => by rw [List.getElem?_eq_getElem h] at h1; exact Option.some.inj h1
    refine Does.of (nt := 15) Tryz.func180 rfl rfl rfl (by simp) ?_
    simp only [argTm, PV.ext, Ce.ext]
    refine Do.seqk fun _ k1_ => ?_
    refine Do.region [0] true ?_
    simp [go_sem, hk, h1, h2]
    apply k1_; clear k1_
    refine Do.seqk fun _ k2_ => ?_
    refine Do.region [2] true ?_
    simp [go_sem, hk, h1, h2]
    repeat (refine And.intro (by first | omega | (intros; omega) | (intros; exact And.intro (by assumption) (by omega)) | grind) ?_)
    apply k2_; clear k2_
    refine Do.ret ?_
    simp [endQ, rets, ret1, go_sem, hk, h1, h2]
    repeat (refine And.intro (by first | omega | (intros; omega) | (intros; exact And.intro (by assumption) (by omega)) | grind) ?_)
    exact ret_b (by simp [hg, h2])
theorem RSame_does {l : List Nat} (hl : l.length ≤ 1073741824) : Does Tryz.prog G 181 [Wd l, Wd l] (.v (.c (.b true))) := by
  refine Does.of (nt := 26) Tryz.func181 rfl rfl rfl (by simp) ?_
  simp only [argTm, PV.ext, Ce.ext]
  refine Do.seqk fun _ k1_ => ?_
  refine Do.region [0,1] true ?_
  simp [go_sem]
  apply k1_; clear k1_
  refine Do.seqk fun _ k2_ => ?_
  refine Do.seqk fun _ k3_ => ?_
  refine Do.region [0,1,10] true ?_
  simp [go_sem]
  repeat (refine And.intro (by first | omega | (intros; omega) | (intros; exact And.intro (by assumption) (by omega)) | grind) ?_)
  apply k3_; clear k3_
  refine Do.cond [0,1] rfl (fun h => ?_) (fun h => ?_) <;> simp [go_sem] at h ⊢
  refine Do.skip ?_
  simp [go_sem]
  apply k2_; clear k2_
  refine Do.seqk fun _ k4_ => ?_
  refine Do.seqk fun _ k5_ => ?_
  refine Do.region [0,1,5] true ?_
  simp [go_sem]
  apply k5_; clear k5_
  refine Do.block ?_
  refine Do.loopF [0,1,5] (fun (i : Nat) => [(5, .int .i64 i)]) (fun (i : Nat) => []) (fun (i : Nat) => i ≤ l.length) (fun (i : Nat) => l.length - i) (0) (fun _ => by first | (simp [go_sem, mixS]; done) | (simp [go_sem, mixS]; rfl)) (St.le_of (by first | rfl | simp [keep]) (by first | rfl | simp [keep])) (Nat.zero_le _) ?_
  intro i hi
  refine Do.seqk fun _ k6_ => ?_
  refine Do.seqk fun _ k7_ => ?_
  refine Do.region [0,1,5,14] true ?_
  simp [go_sem]
  repeat (refine And.intro (by first | omega | (intros; omega) | (intros; exact And.intro (by assumption) (by omega)) | grind) ?_)
  apply k7_; clear k7_
  refine Do.cond [0,1,5] rfl (fun h5 => ?_) (fun h5 => ?_) <;> simp [go_sem] at h5 ⊢
  · obtain ⟨w, hw⟩ : ∃ w, l[i]? = some w := ⟨_, List.getElem?_eq_getElem h5⟩
    refine Do.skip ?_
    simp [go_sem]
    apply k6_; clear k6_
    refine Do.seqk fun _ k8_ => ?_
    refine Do.block ?_
    refine Do.seqk fun _ k9_ => ?_
    refine Do.draw [0,1,5,25] true (by kernel_rfl) ?_
    simp [go_sem, hw]
    repeat (refine And.intro (by first | omega | (intros; omega) | (intros; exact And.intro (by assumption) (by omega)) | kernel_rfl | grind) ?_)
    try (refine And.intro (by kernel_rfl) ?_)
    apply k9_; clear k9_
    refine Do.cond [0,1,5] rfl (fun h6 => ?_) (fun h6 => ?_) <;> simp [go_sem, hw] at h6 ⊢
    refine Do.skip ?_
    simp [go_sem]
    apply k8_; clear k8_
    refine Do.region [0,1,5] true ?_
    simp [go_sem, hw]
    repeat (refine And.intro (by first | omega | (intros; omega) | (intros; exact And.intro (by assumption) (by omega)) | grind) ?_)
    refine ⟨i + 1, St.le_of (by first | rfl | simp [keep]) (by first | rfl | simp [keep]), by omega, by first | (simp; done) | (simp; omega)⟩
  · refine Do.exit ?_
    simp [go_sem]
    apply k4_; clear k4_
    refine Do.seqk fun _ k10_ => ?_
    refine Do.region [4] true ?_
    simp [go_sem]
    apply k10_; clear k10_
    refine Do.ret ?_
    simp [endQ, rets, ret1, go_sem]
    repeat (refine And.intro (by first | omega | (intros; omega) | (intros; exact And.intro (by assumption) (by omega)) | grind) ?_)
    exact TLe.refl _
theorem RIs_does {m : List Nat} (hm : m.length ≤ 1073741824) (wm : Ws m) : Does Tryz.prog G 149 [Wd (nat (val m)), Wd m] (.v (.c (.b true))) := by
  have hl := nat_len_le wm (Nat.le_refl _)
  have h1 := @RCanon_does G (val m) (by omega)
  have h2 := @RTrim_does G m hm wm
  have h3 := @RSame_does G (nat (val m)) (by omega)
  generalize nat (val m) = l at *
  refine Does.of (nt := 13) Tryz.func149 rfl rfl rfl (by simp) ?_
  simp only [argTm, PV.ext, Ce.ext]
  refine Do.seqk fun _ k1_ => ?_
  refine Do.region [0,1] true ?_
  simp [go_sem]
  apply k1_; clear k1_
  refine Do.seqk fun _ k2_ => ?_
  refine Do.region [4] true ?_
  simp [go_sem]
  refine DoL.call true 102 rfl rfl rfl rfl (by first | exact trivial | omega | (simp; done) | (simp; omega)) (h1) rfl (by first | exact .inl rfl | exact .inr rfl) rfl ?_
  simp [go_sem]
  refine DoL.callg true 106 rfl rfl rfl rfl rfl (by simp [go_sem] <;> omega) (fun _ => h2) rfl (by first | exact .inl rfl | exact .inr rfl) rfl ?_
  simp [go_sem]
  refine DoL.callg true 107 rfl rfl rfl rfl rfl (by simp [go_sem] <;> omega) (fun _ => h3) rfl (by first | exact .inl rfl | exact .inr rfl) rfl ?_
  simp [go_sem]
  apply k2_; clear k2_
  refine Do.ret ?_
  simp [endQ, rets, ret1, go_sem]
  repeat (refine And.intro (by first | omega | (intros; omega) | (intros; exact And.intro (by assumption) (by omega)) | grind) ?_)
  exact TLe.refl _
theorem IIs_does {n : Bool} {m : List Nat} (hm : m.length ≤ 1073741824) (wm : Ws m) : Does Tryz.prog G 29 [Iv (sgn n (val m)), .a [.b n, .w false m]] (.v (.c (.b true))) := by
  have h1 := @RIs_does G m hm wm
  have h2 := @ITrim_does G n m hm wm
  have h3 : Does Tryz.prog G 85 [Iv (sgn n (val m)), .a [.b n, .w false m]] (.v (.c (.b true))) := by
    rw [show (nat (val m)) = nat (sgn n (val m)).natAbs by rw [sgn_abs]] at h1
    generalize sgn n (val m) = z at *
    have h2 : Does Tryz.prog G 150 [Ig n m] (.v (.a [.b (decide (z < 0)), .w false (nat z.natAbs)])) := h2
    refine Does.of (nt := 18) Tryz.func85 rfl rfl rfl (by simp) ?_
    simp only [argTm, PV.ext, Ce.ext]
    refine Do.seqk fun _ k1_ => ?_
    refine Do.region [2,3] true ?_
    simp [go_sem]
    apply k1_; clear k1_
    refine Do.seqk fun _ k2_ => ?_
    refine Do.draw [4] true (by kernel_rfl) ?_
    simp [go_sem]
    repeat (refine And.intro (by first | omega | (intros; omega) | (intros; exact And.intro (by assumption) (by omega)) | kernel_rfl | grind) ?_)
    refine DoLD.call true 105 rfl rfl rfl rfl (by first | exact trivial | omega | (simp; done) | (simp; omega)) (h1) rfl (by first | exact .inl rfl | exact .inr rfl) rfl ?_
    simp [go_sem]
    repeat (refine And.intro (by first | omega | (intros; omega) | (intros; exact And.intro (by assumption) (by omega)) | kernel_rfl | grind) ?_)
    refine DoLD.callg true 110 rfl rfl rfl rfl rfl (by simp [go_sem] <;> omega) (fun _ => h2) rfl (by first | exact .inl rfl | exact .inr rfl) rfl ?_
    simp [go_sem]
    refine DoLD.field0 true 111 rfl rfl rfl rfl (by decide) int_field rfl rfl ?_
    simp [go_sem]
    try (refine And.intro (by kernel_rfl) ?_)
    apply k2_; clear k2_
    refine Do.ret ?_
    simp [endQ, rets, ret1, go_sem]
    repeat (refine And.intro (by first | omega | (intros; omega) | (intros; exact And.intro (by assumption) (by omega)) | grind) ?_)
    exact TLe.refl _
  generalize sgn n (val m) = z at *
  refine Does.of (nt := 8) Tryz.func29 rfl rfl rfl (by simp) ?_
  simp only [argTm, PV.ext, Ce.ext]
  refine Do.seqk fun _ k1_ => ?_
  refine Do.region [2,3] true ?_
  simp [go_sem]
  apply k1_; clear k1_
  refine Do.seqk fun _ k2_ => ?_
  refine Do.region [4] true ?_
  simp [go_sem]
  repeat (refine And.intro (by first | omega | (intros; omega) | (intros; exact And.intro (by assumption) (by omega)) | grind) ?_)
  refine DoL.call true 103 rfl rfl rfl rfl (by first | exact trivial | omega | (simp; done) | (simp; omega)) (h3) rfl (by first | exact .inl rfl | exact .inr rfl) rfl ?_
  simp [go_sem]
  apply k2_; clear k2_
  refine Do.ret ?_
  simp [endQ, rets, ret1, go_sem]
  repeat (refine And.intro (by first | omega | (intros; omega) | (intros; exact And.intro (by assumption) (by omega)) | grind) ?_)
  exact TLe.refl _
end Go.Proofs.YtokgalpflooegaaGreatDoor
/- The law ConvertWhole. No condition. -/
namespace Go.Proofs.YtokgalpflooegaaGreatDoor
set_option linter.unusedVariables false
set_option linter.unusedSimpArgs false
set_option maxHeartbeats 4000000
set_option maxRecDepth 10000
end Go.Proofs.YtokgalpflooegaaGreatDoor
/- The law ConvertInts. No condition. -/
namespace Go.Proofs.YtokgalpflooegaaGreatDoor
set_option linter.unusedVariables false
set_option linter.unusedSimpArgs false
set_option maxHeartbeats 8000000
set_option maxRecDepth 10000
theorem IIs_same {G : Gl} {z : Int} (hz : bl z.natAbs ≤ 1000000) : Does Tryz.prog G 29 [Iv z, Iv z] (.v (.c (.b true))) := by
  have h := @IIs_does G (decide (z < 0)) (nat z.natAbs) (by have := len_bl hz; omega) (nat_ws _)
  rw [val_nat, sgn_of] at h
  exact h
end Go.Proofs.YtokgalpflooegaaGreatDoor
/- An element of an array of two, in a region whose order is open; the ends of integers of so many bits. No condition. -/
namespace Go.Proofs.YtokgalpflooegaaGreatDoor
set_option linter.unusedVariables false
set_option linter.unusedSimpArgs false
set_option maxHeartbeats 4000000
set_option maxRecDepth 10000
section
variable {P : Program} {G : Gl} {nt : Nat} {st : St} {ops l : List Oper} {md : Bool} {Q : St → Prop} {o : Oper}
theorem DoL.build2 (lab : Nat) (hg : o.guard = none) {t : TypeId} {x y : Operand} {c0 c1 : Ce} (hop : o.op = .build t #[(0, x), (1, y)]) (hx : opv st.tm x = some (.v (.c c0))) (hy : opv st.tm y = some (.v (.c c1))) (h0 : ∀ E v, RC E c0 v → ∃ p n k, v = .slice p n k) (h1 : ∀ E v, RC E c1 v → ∃ p n k, v = .slice p n k)
    (hF : ∀ p n k p' n' k' W, (Instr.build t #[(0, .slice p n k), (1, .slice p' n' k')]).run P W = .ok (.agg #[.slice p n k, .slice p' n' k']) W) (hd : dstOk nt o.dst = true) (next : runs P G nt md ops Q lab l ⟨setv o.dst (some (.v (.a [c0, c1]))) st.tm, st.ob⟩) : DoL P G nt ops (o :: l) st Q := by
  intro cx a W hn ⟨m, hr⟩ Q' hQ
  refine wpList_plain hg fun K hK => ?_
  unfold Oper.wp
  have hxv := hr.opv hx
  have hyv := hr.opv hy
  obtain ⟨p, n, k, e0⟩ := h0 _ _ hxv
  obtain ⟨p', n', k', e1⟩ := h1 _ _ hyv
  have hexec : (execOp a.eval o).run P W = .ok (.value (.agg #[.slice p n k, .slice p' n' k'])) W := by
    simp [execOp, hop, e0, e1, hF]
  rw [hexec]
  rw [e0] at hxv
  rw [e1] at hyv
  exact hK _ _ (DoL.run next cx _ _ hn (Rel.put hr hn hd (x := .v (.a [c0, c1])) (show RT _ (.v (.a [c0, c1])) _ from ⟨_, rfl, .cons hxv (.cons hyv .nil)⟩)) Q' hQ)
end
theorem rc_w {b : Bool} {l : List Nat} : ∀ E v, RC E (.w b l) v → ∃ p n k, v = .slice p n k := fun E v ⟨p, k, h, _⟩ => ⟨p, _, k, h⟩
theorem rc_z : ∀ E v, RC E .z v → ∃ p n k, v = .slice p n k := fun E v h => ⟨none, 0, 0, h⟩
theorem two_build : ∀ p n k p' n' k' W, (Instr.build 142 #[(0, .slice p n k), (1, .slice p' n' k')]).run Tryz.prog W = .ok (.agg #[.slice p n k, .slice p' n' k']) W := fun p n k p' n' k' W => by kernel_rfl
/-- How far integers of so many bits go to a side. -/
def lim (b : Nat) (s neg : Bool) : Nat := if s then (if neg then 2 ^ (b - 1) else 2 ^ (b - 1) - 1) else (if neg then 0 else 2 ^ b - 1)
theorem bl_p2 (k : Nat) : bl (2 ^ k) = k + 1 := by have := bl_mul_pow 1 k (by decide); rw [Nat.one_mul] at this; rw [this]; rfl
theorem lim_bl {b : Nat} (hb : b ≤ 4096) (s n : Bool) : bl (lim b s n) ≤ 4097 := by
  have h1 := bl_p2 (b - 1)
  have h2 := bl_p2 b
  have h3 := bl_mono (show 2 ^ (b - 1) - 1 ≤ 2 ^ (b - 1) from Nat.sub_le _ _)
  have h4 := bl_mono (show 2 ^ b - 1 ≤ 2 ^ b from Nat.sub_le _ _)
  unfold lim
  cases s <;> cases n <;> simp [bl_zero] <;> omega
theorem limits_does {b : Nat} {s : Bool} (h1 : 1 ≤ b) (h2 : b ≤ 4096) : Does Tryz.prog Gv 88 [.c (.i .i64 b), .c (.b s)] (.v (.a [.w false (nat (lim b s false)), .w false (nat (lim b s true))])) := by
  have w1 : Ws [1] := fun w hw => by simp at hw; omega
  cases s with
  | false =>
    have hS := @Shl_does Gv [1] (by decide) w1 b (by simp; omega)
    rw [show val [1] = 1 from rfl, Nat.one_mul] at hS
    have hl := nat_len_bl (2 ^ b)
    have hb := bl_p2 b
    have hsub := @Sub_does Gv (nat (2 ^ b)) [1] (by unfold Sh; omega) (by decide) (nat_ws _) w1 (by rw [val_nat]; exact Nat.pow_pos (by decide))
    rw [val_nat, show val [1] = 1 from rfl] at hsub
    have e1 : lim b false false = 2 ^ b - 1 := rfl
    have e2 : lim b false true = 0 := rfl
    rw [e1, e2, nat_zero]
    generalize 2 ^ b = P at *
    refine Does.of (nt := 23) Tryz.func88 rfl rfl rfl (by simp) ?_
    simp only [argTm, PV.ext, Ce.ext]
    refine Do.seqk fun _ k1_ => ?_
    refine Do.region [0,1,4] true ?_
    simp [go_sem]
    apply k1_; clear k1_
    refine Do.seqk fun _ k2_ => ?_
    refine Do.seqk fun _ k3_ => ?_
    refine Do.region [0,4,7] true ?_
    simp [go_sem]
    repeat (refine And.intro (by first | omega | (intros; omega) | (intros; exact And.intro (by assumption) (by omega)) | grind) ?_)
    apply k3_; clear k3_
    refine Do.cond [0,4] rfl (fun g => ?_) (fun g => ?_) <;> simp [go_sem] at g ⊢
    refine Do.seqk fun _ k4_ => ?_
    refine Do.region [4] true ?_
    simp [go_sem]
    refine DoL.frz true 202 200 rfl ?_
    simp [go_sem]
    refine DoL.call true 203 rfl rfl rfl rfl (by first | exact trivial | omega | (simp; done) | (simp; omega)) (hS) rfl (by first | exact .inl rfl | exact .inr rfl) rfl ?_
    simp [go_sem]
    refine DoL.frz true 204 203 rfl ?_
    simp [go_sem]
    refine DoL.call true 205 rfl rfl rfl rfl (by first | exact trivial | omega | (simp; done) | (simp; omega)) (hsub) rfl (by first | exact .inl rfl | exact .inr rfl) rfl ?_
    simp [go_sem]
    repeat (refine And.intro (by first | omega | (intros; omega) | (intros; exact And.intro (by assumption) (by omega)) | grind) ?_)
    refine DoL.build2 (md := true) 206 rfl rfl rfl rfl rc_w rc_z two_build rfl ?_
    simp [go_sem]
    apply k4_; clear k4_
    refine Do.ret ?_
    simp [endQ, rets, ret1, go_sem]
    repeat (refine And.intro (by first | omega | (intros; omega) | (intros; exact And.intro (by assumption) (by omega)) | grind) ?_)
    exact TLe.v (PLe.agg (.cons (PLe.ext (.c (.w true _))) (.cons (PLe.z false) .nil)))
  | true =>
    obtain ⟨c, rfl⟩ : ∃ c, b = c + 1 := ⟨b - 1, by omega⟩
    have hS := @Shl_does Gv [1] (by decide) w1 c (by simp; omega)
    rw [show val [1] = 1 from rfl, Nat.one_mul] at hS
    have hl := nat_len_bl (2 ^ c)
    have hb := bl_p2 c
    have hsub := @Sub_does Gv (nat (2 ^ c)) [1] (by unfold Sh; omega) (by decide) (nat_ws _) w1 (by rw [val_nat]; exact Nat.pow_pos (by decide))
    rw [val_nat, show val [1] = 1 from rfl] at hsub
    have e1 : lim (c + 1) true false = 2 ^ c - 1 := rfl
    have e2 : lim (c + 1) true true = 2 ^ c := rfl
    rw [e1, e2]
    generalize 2 ^ c = P at *
    refine Does.of (nt := 23) Tryz.func88 rfl rfl rfl (by simp) ?_
    simp only [argTm, PV.ext, Ce.ext]
    refine Do.seqk fun _ k1_ => ?_
    refine Do.region [0,1,4] true ?_
    simp [go_sem, show ((c + 1 : Nat) : Int) - 1 = c by omega, show ((c : Int) + 1 - 1) = c by omega]
    apply k1_; clear k1_
    refine Do.seqk fun _ k2_ => ?_
    refine Do.seqk fun _ k3_ => ?_
    refine Do.region [0,4,7] true ?_
    simp [go_sem, show ((c + 1 : Nat) : Int) - 1 = c by omega, show ((c : Int) + 1 - 1) = c by omega]
    repeat (refine And.intro (by first | omega | (intros; omega) | (intros; exact And.intro (by assumption) (by omega)) | grind) ?_)
    apply k3_; clear k3_
    refine Do.cond [0,4] rfl (fun g => ?_) (fun g => ?_) <;> simp [go_sem, show ((c + 1 : Nat) : Int) - 1 = c by omega, show ((c : Int) + 1 - 1) = c by omega] at g ⊢
    refine Do.skip ?_
    simp [go_sem]
    apply k2_; clear k2_
    refine Do.seqk fun _ k4_ => ?_
    refine Do.region [4,5] true ?_
    simp [go_sem, show ((c + 1 : Nat) : Int) - 1 = c by omega, show ((c : Int) + 1 - 1) = c by omega]
    repeat (refine And.intro (by first | omega | (intros; omega) | (intros; exact And.intro (by assumption) (by omega)) | grind) ?_)
    refine DoL.frz true 303 300 rfl ?_
    simp [go_sem]
    refine DoL.call true 304 rfl rfl rfl rfl (by first | exact trivial | omega | (simp; done) | (simp; omega)) (hS) rfl (by first | exact .inl rfl | exact .inr rfl) rfl ?_
    simp [go_sem, show ((c + 1 : Nat) : Int) - 1 = c by omega, show ((c : Int) + 1 - 1) = c by omega]
    apply k4_; clear k4_
    refine Do.seqk fun _ k5_ => ?_
    refine Do.region [4] true ?_
    simp [go_sem, show ((c + 1 : Nat) : Int) - 1 = c by omega, show ((c : Int) + 1 - 1) = c by omega]
    refine DoL.frz true 402 401 rfl ?_
    simp [go_sem]
    refine DoL.call true 403 rfl rfl rfl rfl (by first | exact trivial | omega | (simp; done) | (simp; omega)) (hsub) rfl (by first | exact .inl rfl | exact .inr rfl) rfl ?_
    simp [go_sem, show ((c + 1 : Nat) : Int) - 1 = c by omega, show ((c : Int) + 1 - 1) = c by omega]
    repeat (refine And.intro (by first | omega | (intros; omega) | (intros; exact And.intro (by assumption) (by omega)) | grind) ?_)
    refine DoL.build2 (md := true) 405 rfl rfl rfl rfl rc_w rc_w two_build rfl ?_
    simp [go_sem]
    apply k5_; clear k5_
    refine Do.ret ?_
    simp [endQ, rets, ret1, go_sem, show ((c + 1 : Nat) : Int) - 1 = c by omega, show ((c : Int) + 1 - 1) = c by omega]
    repeat (refine And.intro (by first | omega | (intros; omega) | (intros; exact And.intro (by assumption) (by omega)) | grind) ?_)
    exact TLe.v (PLe.agg (.cons (PLe.ext (.c (.w true _))) (.cons (PLe.ext (.c (.w true _))) .nil)))
theorem side_does {n : Bool} : Does Tryz.prog Gv 89 [.c (.b n)] (.v (.c (.i .i64 (if n then 1 else 0)))) := by
  cases n
  · skip
    refine Does.of (nt := 4) Tryz.func89 rfl rfl rfl (by simp) ?_
    simp only [argTm, PV.ext, Ce.ext]
    refine Do.seqk fun _ k1_ => ?_
    refine Do.region [0] true ?_
    simp [go_sem]
    apply k1_; clear k1_
    refine Do.seqk fun _ k2_ => ?_
    refine Do.seqk fun _ k3_ => ?_
    refine Do.region [3] true ?_
    simp [go_sem]
    apply k3_; clear k3_
    refine Do.cond [] rfl (fun h => ?_) (fun h => ?_) <;> simp [go_sem] at h ⊢
    refine Do.skip ?_
    simp [go_sem]
    apply k2_; clear k2_
    refine Do.seqk fun _ k4_ => ?_
    refine Do.region [2] true ?_
    simp [go_sem]
    apply k4_; clear k4_
    refine Do.ret ?_
    simp [endQ, rets, ret1, go_sem]
    repeat (refine And.intro (by first | omega | (intros; omega) | (intros; exact And.intro (by assumption) (by omega)) | grind) ?_)
    exact TLe.refl _
  · skip
    refine Does.of (nt := 4) Tryz.func89 rfl rfl rfl (by simp) ?_
    simp only [argTm, PV.ext, Ce.ext]
    refine Do.seqk fun _ k1_ => ?_
    refine Do.region [0] true ?_
    simp [go_sem]
    apply k1_; clear k1_
    refine Do.seqk fun _ k2_ => ?_
    refine Do.seqk fun _ k3_ => ?_
    refine Do.region [3] true ?_
    simp [go_sem]
    apply k3_; clear k3_
    refine Do.cond [] rfl (fun h => ?_) (fun h => ?_) <;> simp [go_sem] at h ⊢
    refine Do.seqk fun _ k4_ => ?_
    refine Do.region [2] true ?_
    simp [go_sem]
    apply k4_; clear k4_
    refine Do.ret ?_
    simp [endQ, rets, ret1, go_sem]
    repeat (refine And.intro (by first | omega | (intros; omega) | (intros; exact And.intro (by assumption) (by omega)) | grind) ?_)
    exact TLe.refl _
theorem Rends_does {G : Gl} {b : Nat} {s : Bool} (h1 : 1 ≤ b) (h2 : b ≤ 4096) : Does Tryz.prog G 90 [.c (.i .i64 b), .c (.b s)] (.t [Iv (-(lim b s true : Int)), Iv (lim b s false)]) := by
  have i0 : Does Tryz.prog G 91 [.c (.i .i64 0)] (.v (Iv 0)) := @IFrom_does G 0 (by decide)
  have i1 : Does Tryz.prog G 91 [.c (.i .i64 1)] (.v (Iv 1)) := @IFrom_does G 1 (by decide)
  have hw := @RWord_does G 1 (by decide)
  cases s with
  | false =>
    have hL := @RLeft_does G (nat 1) b (by rw [nat_one]; decide) (nat_ws _) (by omega)
    rw [val_nat, Nat.one_mul] at hL
    have hb := bl_p2 b
    have hM := @IvMake G false (2 ^ b) (by omega)
    rw [sgn_false] at hM
    have hS := @IvSub G ((2 ^ b : Nat) : Int) 1 (by unfold Bz; rw [Int.natAbs_natCast]; omega) (by unfold Bz; decide)
    have e1 : ((lim b false false : Nat) : Int) = ((2 ^ b : Nat) : Int) - 1 := by
      show ((2 ^ b - 1 : Nat) : Int) = _
      have := Nat.pow_pos (n := b) (show 0 < 2 by decide)
      generalize 2 ^ b = P at *
      omega
    have e2 : (-((lim b false true : Nat) : Int)) = 0 := rfl
    rw [e1, e2]
    generalize ((2 ^ b : Nat) : Int) - 1 = z at *
    generalize ((2 ^ b : Nat) : Int) = y at *
    generalize 2 ^ b = P at *
    refine Does.of (nt := 28) Tryz.func90 rfl rfl rfl (by simp) ?_
    simp only [argTm, PV.ext, Ce.ext]
    refine Do.seqk fun _ k1_ => ?_
    refine Do.region [0,1,4,5] true ?_
    simp [go_sem]
    apply k1_; clear k1_
    refine Do.seqk fun _ k2_ => ?_
    refine Do.region [0,1,4,5,6] true ?_
    simp [go_sem]
    refine DoL.call true 101 rfl rfl rfl rfl (by first | exact trivial | omega | (simp; done) | (simp; omega)) (i1) rfl (by first | exact .inl rfl | exact .inr rfl) rfl ?_
    simp [go_sem]
    repeat (refine And.intro (by first | omega | (intros; omega) | (intros; exact And.intro (by assumption) (by omega)) | grind) ?_)
    apply k2_; clear k2_
    refine Do.seqk fun _ k3_ => ?_
    refine Do.seqk fun _ k4_ => ?_
    refine Do.region [0,4,5,6,10] true ?_
    simp [go_sem]
    repeat (refine And.intro (by first | omega | (intros; omega) | (intros; exact And.intro (by assumption) (by omega)) | grind) ?_)
    apply k4_; clear k4_
    refine Do.cond [0,4,5,6] rfl (fun g => ?_) (fun g => ?_) <;> simp [go_sem] at g ⊢
    refine Do.seqk fun _ k5_ => ?_
    refine Do.draw [4,5] true (by kernel_rfl) ?_
    simp [go_sem]
    refine DoLD.call true 301 rfl rfl rfl rfl (by first | exact trivial | omega | (simp; done) | (simp; omega)) (i0) rfl (by first | exact .inl rfl | exact .inr rfl) rfl ?_
    simp [go_sem]
    refine DoLD.call true 302 rfl rfl rfl rfl (by first | exact trivial | omega | (simp; done) | (simp; omega)) (hw) rfl (by first | exact .inl rfl | exact .inr rfl) rfl ?_
    simp [go_sem]
    refine DoLD.call true 304 rfl rfl rfl rfl (by first | exact trivial | omega | (simp; done) | (simp; omega)) (hL) rfl (by first | exact .inl rfl | exact .inr rfl) rfl ?_
    simp [go_sem]
    refine DoLD.call true 305 rfl rfl rfl rfl (by first | exact trivial | omega | (simp; done) | (simp; omega)) (hM) rfl (by first | exact .inl rfl | exact .inr rfl) rfl ?_
    simp [go_sem]
    repeat (refine And.intro (by first | omega | (intros; omega) | (intros; exact And.intro (by assumption) (by omega)) | kernel_rfl | grind) ?_)
    refine DoLD.call true 307 rfl rfl rfl rfl (by first | exact trivial | omega | (simp; done) | (simp; omega)) (hS) rfl (by first | exact .inl rfl | exact .inr rfl) rfl ?_
    simp [go_sem]
    repeat (refine And.intro (by first | omega | (intros; omega) | (intros; exact And.intro (by assumption) (by omega)) | kernel_rfl | grind) ?_)
    try (refine And.intro (by kernel_rfl) ?_)
    apply k5_; clear k5_
    refine Do.ret ?_
    simp [endQ, rets, ret1, go_sem]
    repeat (refine And.intro (by first | omega | (intros; omega) | (intros; exact And.intro (by assumption) (by omega)) | grind) ?_)
    exact TLe.refl _
  | true =>
    obtain ⟨c, rfl⟩ : ∃ c, b = c + 1 := ⟨b - 1, by omega⟩
    have hL := @RLeft_does G (nat 1) c (by rw [nat_one]; decide) (nat_ws _) (by omega)
    rw [val_nat, Nat.one_mul] at hL
    have hb := bl_p2 c
    have hM := @IvMake G false (2 ^ c) (by omega)
    rw [sgn_false] at hM
    have hS := @IvSub G ((2 ^ c : Nat) : Int) 1 (by unfold Bz; rw [Int.natAbs_natCast]; omega) (by unfold Bz; decide)
    have hN := @IvNeg G ((2 ^ c : Nat) : Int) (by unfold Bz; rw [Int.natAbs_natCast]; omega)
    have e1 : ((lim (c + 1) true false : Nat) : Int) = ((2 ^ c : Nat) : Int) - 1 := by
      show ((2 ^ c - 1 : Nat) : Int) = _
      have := Nat.pow_pos (n := c) (show 0 < 2 by decide)
      generalize 2 ^ c = P at *
      omega
    have e2 : (-((lim (c + 1) true true : Nat) : Int)) = -((2 ^ c : Nat) : Int) := rfl
    rw [e1, e2]
    generalize ((2 ^ c : Nat) : Int) - 1 = z at *
    generalize -((2 ^ c : Nat) : Int) = x at *
    generalize ((2 ^ c : Nat) : Int) = y at *
    generalize 2 ^ c = P at *
    refine Does.of (nt := 28) Tryz.func90 rfl rfl rfl (by simp) ?_
    simp only [argTm, PV.ext, Ce.ext]
    refine Do.seqk fun _ k1_ => ?_
    refine Do.region [0,1,4,5] true ?_
    simp [go_sem, show ((c + 1 : Nat) : Int) - 1 = c by omega, show ((c : Int) + 1 - 1) = c by omega]
    apply k1_; clear k1_
    refine Do.seqk fun _ k2_ => ?_
    refine Do.region [0,1,4,5,6] true ?_
    simp [go_sem, show ((c + 1 : Nat) : Int) - 1 = c by omega, show ((c : Int) + 1 - 1) = c by omega]
    refine DoL.call true 101 rfl rfl rfl rfl (by first | exact trivial | omega | (simp; done) | (simp; omega)) (i1) rfl (by first | exact .inl rfl | exact .inr rfl) rfl ?_
    simp [go_sem, show ((c + 1 : Nat) : Int) - 1 = c by omega, show ((c : Int) + 1 - 1) = c by omega]
    repeat (refine And.intro (by first | omega | (intros; omega) | (intros; exact And.intro (by assumption) (by omega)) | grind) ?_)
    apply k2_; clear k2_
    refine Do.seqk fun _ k3_ => ?_
    refine Do.seqk fun _ k4_ => ?_
    refine Do.region [0,4,5,6,10] true ?_
    simp [go_sem, show ((c + 1 : Nat) : Int) - 1 = c by omega, show ((c : Int) + 1 - 1) = c by omega]
    repeat (refine And.intro (by first | omega | (intros; omega) | (intros; exact And.intro (by assumption) (by omega)) | grind) ?_)
    apply k4_; clear k4_
    refine Do.cond [0,4,5,6] rfl (fun g => ?_) (fun g => ?_) <;> simp [go_sem, show ((c + 1 : Nat) : Int) - 1 = c by omega, show ((c : Int) + 1 - 1) = c by omega] at g ⊢
    refine Do.skip ?_
    simp [go_sem]
    apply k3_; clear k3_
    refine Do.seqk fun _ k5_ => ?_
    refine Do.region [4,5,6,7] true ?_
    simp [go_sem, show ((c + 1 : Nat) : Int) - 1 = c by omega, show ((c : Int) + 1 - 1) = c by omega]
    refine DoL.call true 401 rfl rfl rfl rfl (by first | exact trivial | omega | (simp; done) | (simp; omega)) (hw) rfl (by first | exact .inl rfl | exact .inr rfl) rfl ?_
    simp [go_sem, show ((c + 1 : Nat) : Int) - 1 = c by omega, show ((c : Int) + 1 - 1) = c by omega]
    repeat (refine And.intro (by first | omega | (intros; omega) | (intros; exact And.intro (by assumption) (by omega)) | grind) ?_)
    refine DoL.call true 404 rfl rfl rfl rfl (by first | exact trivial | omega | (simp; done) | (simp; omega)) (hL) rfl (by first | exact .inl rfl | exact .inr rfl) rfl ?_
    simp [go_sem, show ((c + 1 : Nat) : Int) - 1 = c by omega, show ((c : Int) + 1 - 1) = c by omega]
    refine DoL.call true 405 rfl rfl rfl rfl (by first | exact trivial | omega | (simp; done) | (simp; omega)) (hM) rfl (by first | exact .inl rfl | exact .inr rfl) rfl ?_
    simp [go_sem, show ((c + 1 : Nat) : Int) - 1 = c by omega, show ((c : Int) + 1 - 1) = c by omega]
    repeat (refine And.intro (by first | omega | (intros; omega) | (intros; exact And.intro (by assumption) (by omega)) | grind) ?_)
    apply k5_; clear k5_
    refine Do.seqk fun _ k6_ => ?_
    refine Do.draw [4,5] true (by kernel_rfl) ?_
    simp [go_sem, show ((c + 1 : Nat) : Int) - 1 = c by omega, show ((c : Int) + 1 - 1) = c by omega]
    repeat (refine And.intro (by first | omega | (intros; omega) | (intros; exact And.intro (by assumption) (by omega)) | kernel_rfl | grind) ?_)
    refine DoLD.call true 502 rfl rfl rfl rfl (by first | exact trivial | omega | (simp; done) | (simp; omega)) (hN) rfl (by first | exact .inl rfl | exact .inr rfl) rfl ?_
    simp [go_sem, show ((c + 1 : Nat) : Int) - 1 = c by omega, show ((c : Int) + 1 - 1) = c by omega]
    repeat (refine And.intro (by first | omega | (intros; omega) | (intros; exact And.intro (by assumption) (by omega)) | kernel_rfl | grind) ?_)
    refine DoLD.call true 505 rfl rfl rfl rfl (by first | exact trivial | omega | (simp; done) | (simp; omega)) (hS) rfl (by first | exact .inl rfl | exact .inr rfl) rfl ?_
    simp [go_sem, show ((c + 1 : Nat) : Int) - 1 = c by omega, show ((c : Int) + 1 - 1) = c by omega]
    repeat (refine And.intro (by first | omega | (intros; omega) | (intros; exact And.intro (by assumption) (by omega)) | kernel_rfl | grind) ?_)
    try (refine And.intro (by kernel_rfl) ?_)
    apply k6_; clear k6_
    refine Do.ret ?_
    simp [endQ, rets, ret1, go_sem, show ((c + 1 : Nat) : Int) - 1 = c by omega, show ((c : Int) + 1 - 1) = c by omega]
    repeat (refine And.intro (by first | omega | (intros; omega) | (intros; exact And.intro (by assumption) (by omega)) | grind) ?_)
    exact TLe.refl _
end Go.Proofs.YtokgalpflooegaaGreatDoor
