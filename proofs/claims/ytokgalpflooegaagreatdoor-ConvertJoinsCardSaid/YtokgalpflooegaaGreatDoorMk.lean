/- The law ConvertJoins holds, for every input: the two parts of a Finite float add up to it, the first is an integer, the second is less than 1; both have its sign. Conditions: the two listed package variables hold what the program's text lays (tied by the card). -/
import Derived.Test.YtokgalpflooegaaGreatDoorMj
import Derived.Test.YtokgalpflooegaaGreatDoorMg
import Derived.KernelRfl
import Derived.Test.YtokgalpflooegaaGreatDoorMh
import Derived.Test.YtokgalpflooegaaGreatDoorMi
import Derived.Test.YtokgalpflooegaaGreatDoorCards
import Derived.Test.YtokgalpflooegaaGreatDoorTie
import Derived.SevenTiedAt
/- Rounding of rational numbers whose denominator is 1; the program awake. No condition. -/
namespace Go.Proofs.YtokgalpflooegaaGreatDoor
set_option linter.unusedVariables false
set_option linter.unusedSimpArgs false
set_option maxHeartbeats 4000000
set_option maxRecDepth 10000
/-- A rational number as it is laid. -/
abbrev Qr (n : Bool) (m d : List Nat) : PV := .a [.b n, .w false m, .w false d]
/-- The error of a rational number and a rounding. -/
def checkQ (r : Int) (m d : List Nat) : Int :=
  if 4096 < m.length ∨ 4096 < d.length then 2 else if val d = 0 then 5 else if 0 ≤ r ∧ r ≤ 4 then 0 else 1
theorem check_does20 {r : Int} {n : Bool} {m d : List Nat} (hm : Sh m) (hd : Sh d) : Does Tryz.prog Gv 120 [.c (.i .i64 r), .s false [[.b n, .w false m, .w false d]]] (.v (.c (.i .i64 (checkQ r m d)))) := by
  have hz : checkQ r m d = checkQ r m d := rfl
  conv at hz => rhs; unfold checkQ
  generalize checkQ r m d = z at *
  have hZ := @Zero_does Gv d hd
  have hR := @Right_does Gv r
  refine Does.of (nt := 40) Tryz.func120 rfl rfl rfl (by simp) ?_
  simp only [argTm, PV.ext, Ce.ext]
  refine Do.seqk fun _ k1_ => ?_
  refine Do.region [0,1] true ?_
  simp [go_sem]
  apply k1_; clear k1_
  refine Do.seqk fun _ k2_ => ?_
  refine Do.seqk fun _ k3_ => ?_
  refine Do.region [0,1,9,10,11] true ?_
  simp [go_sem]
  repeat (refine And.intro (by first | omega | (intros; omega) | (intros; exact And.intro (by assumption) (by omega)) | grind) ?_)
  apply k3_; clear k3_
  refine Do.block ?_
  refine Do.loopF [0,1,9,10,11] (fun (i : Nat) => [(11, .int .i64 i)]) (fun (i : Nat) => []) (fun (i : Nat) => i ≤ 1 ∧ (0 < i → ¬ (4096 < m.length ∨ 4096 < d.length))) (fun (i : Nat) => 1 - i) (0) (fun _ => by first | (simp [go_sem, mixS]; done) | (simp [go_sem, mixS]; rfl)) (St.le_of (by first | rfl | simp [keep]) (by first | rfl | simp [keep])) (⟨by omega, by omega⟩) ?_
  rintro i ⟨hi, hs⟩
  refine Do.seqk fun _ k4_ => ?_
  refine Do.region [0,1,9,10,11,12] true ?_
  simp [go_sem]
  apply k4_; clear k4_
  refine Do.seqk fun _ k5_ => ?_
  refine Do.cond [0,1,9,10,11] rfl (fun g1 => ?_) (fun g1 => ?_) <;> simp [go_sem] at g1 ⊢
  · obtain rfl : i = 0 := by omega
    refine Do.skip ?_
    simp [go_sem]
    apply k5_; clear k5_
    refine Do.seqk fun _ k6_ => ?_
    refine Do.block ?_
    refine Do.seqk fun _ k7_ => ?_
    refine Do.region [0,1,6,9,10,11] true ?_
    simp [go_sem, List.length_cons, List.length_nil]
    repeat (refine And.intro (by first | omega | (intros; omega) | (intros; exact And.intro (by assumption) (by omega)) | grind) ?_)
    apply k7_; clear k7_
    refine Do.seqk fun _ k8_ => ?_
    refine Do.region [0,1,9,10,11,25] true ?_
    simp [go_sem, List.length_cons, List.length_nil]
    repeat (refine And.intro (by first | omega | (intros; omega) | (intros; exact And.intro (by assumption) (by omega)) | grind) ?_)
    apply k8_; clear k8_
    refine Do.cond [0,1,9,10,11] rfl (fun g2 => ?_) (fun g2 => ?_) <;> simp [go_sem, List.length_cons, List.length_nil] at g2 ⊢
    · refine Do.seqk fun _ k9_ => ?_
      refine Do.region [4] true ?_
      simp [go_sem, List.length_cons, List.length_nil]
      apply k9_; clear k9_
      refine Do.ret ?_
      simp [endQ, rets, ret1, go_sem, List.length_cons, List.length_nil]
      repeat (refine And.intro (by first | omega | (intros; omega) | (intros; exact And.intro (by assumption) (by omega)) | grind) ?_)
      rw [if_pos (by omega)] at hz
      subst hz
      exact TLe.refl _
    · refine Do.skip ?_
      simp [go_sem]
      apply k6_; clear k6_
      refine Do.region [0,1,9,10,11] true ?_
      simp [go_sem, List.length_cons, List.length_nil]
      repeat (refine And.intro (by first | omega | (intros; omega) | (intros; exact And.intro (by assumption) (by omega)) | grind) ?_)
      refine ⟨1, St.le_of (by first | rfl | simp [keep]) (by first | rfl | simp [keep]), ⟨by omega, by omega⟩, by simp⟩
  · obtain rfl : i = 1 := by omega
    have hs := hs (by omega)
    rw [if_neg hs] at hz
    refine Do.exit ?_
    simp [go_sem]
    apply k2_; clear k2_
    refine Do.seqk fun _ k10_ => ?_
    refine Do.seqk fun _ k11_ => ?_
    refine Do.region [0,27,28,29] true ?_
    simp [go_sem]
    repeat (refine And.intro (by first | omega | (intros; omega) | (intros; exact And.intro (by assumption) (by omega)) | grind) ?_)
    apply k11_; clear k11_
    refine Do.block ?_
    refine Do.loopF [0,27,28,29] (fun (j : Nat) => [(29, .int .i64 j)]) (fun (j : Nat) => []) (fun (j : Nat) => j ≤ 1 ∧ (0 < j → val d ≠ 0)) (fun (j : Nat) => 1 - j) (0) (fun _ => by first | (simp [go_sem, mixS]; done) | (simp [go_sem, mixS]; rfl)) (St.le_of (by first | rfl | simp [keep]) (by first | rfl | simp [keep])) (⟨by omega, by omega⟩) ?_
    rintro j ⟨hj, hs2⟩
    refine Do.seqk fun _ k12_ => ?_
    refine Do.region [0,27,28,29,30] true ?_
    simp [go_sem]
    apply k12_; clear k12_
    refine Do.seqk fun _ k13_ => ?_
    refine Do.cond [0,27,28,29] rfl (fun g3 => ?_) (fun g3 => ?_) <;> simp [go_sem] at g3 ⊢
    · obtain rfl : j = 0 := by omega
      refine Do.skip ?_
      simp [go_sem]
      apply k13_; clear k13_
      refine Do.seqk fun _ k14_ => ?_
      refine Do.block ?_
      refine Do.seqk fun _ k15_ => ?_
      refine Do.region [0,8,27,28,29] true ?_
      simp [go_sem, List.length_cons, List.length_nil]
      repeat (refine And.intro (by first | omega | (intros; omega) | (intros; exact And.intro (by assumption) (by omega)) | grind) ?_)
      apply k15_; clear k15_
      refine Do.seqk fun _ k16_ => ?_
      refine Do.region [0,27,28,29,35] true ?_
      simp [go_sem, List.length_cons, List.length_nil]
      repeat (refine And.intro (by first | omega | (intros; omega) | (intros; exact And.intro (by assumption) (by omega)) | grind) ?_)
      refine DoL.call true 1003 rfl rfl rfl rfl (by first | exact trivial | omega | (simp; done) | (simp; omega)) (hZ) rfl (by first | exact .inl rfl | exact .inr rfl) rfl ?_
      simp [go_sem, List.length_cons, List.length_nil]
      apply k16_; clear k16_
      refine Do.cond [0,27,28,29] rfl (fun g4 => ?_) (fun g4 => ?_) <;> simp [go_sem, List.length_cons, List.length_nil] at g4 ⊢
      · refine Do.seqk fun _ k17_ => ?_
        refine Do.region [4] true ?_
        simp [go_sem, List.length_cons, List.length_nil]
        apply k17_; clear k17_
        refine Do.ret ?_
        simp [endQ, rets, ret1, go_sem, List.length_cons, List.length_nil]
        repeat (refine And.intro (by first | omega | (intros; omega) | (intros; exact And.intro (by assumption) (by omega)) | grind) ?_)
        rw [if_pos g4] at hz
        subst hz
        exact TLe.refl _
      · refine Do.skip ?_
        simp [go_sem]
        apply k14_; clear k14_
        refine Do.region [0,27,28,29] true ?_
        simp [go_sem, List.length_cons, List.length_nil]
        repeat (refine And.intro (by first | omega | (intros; omega) | (intros; exact And.intro (by assumption) (by omega)) | grind) ?_)
        refine ⟨1, St.le_of (by first | rfl | simp [keep]) (by first | rfl | simp [keep]), ⟨by omega, fun _ => g4⟩, by simp⟩
    · obtain rfl : j = 1 := by omega
      rw [if_neg (hs2 (by omega))] at hz
      refine Do.exit ?_
      simp [go_sem]
      apply k10_; clear k10_
      refine Do.seqk fun _ k18_ => ?_
      refine Do.seqk fun _ k19_ => ?_
      refine Do.region [39] true ?_
      simp [go_sem]
      refine DoL.call true 1302 rfl rfl rfl rfl (by first | exact trivial | omega | (simp; done) | (simp; omega)) (hR) rfl (by first | exact .inl rfl | exact .inr rfl) rfl ?_
      simp [go_sem]
      repeat (refine And.intro (by first | omega | (intros; omega) | (intros; exact And.intro (by assumption) (by omega)) | grind) ?_)
      apply k19_; clear k19_
      refine Do.cond [] rfl (fun g5 => ?_) (fun g5 => ?_) <;> simp [go_sem] at g5 ⊢
      · refine Do.seqk fun _ k20_ => ?_
        refine Do.region [4] true ?_
        simp [go_sem]
        apply k20_; clear k20_
        refine Do.ret ?_
        simp [endQ, rets, ret1, go_sem]
        repeat (refine And.intro (by first | omega | (intros; omega) | (intros; exact And.intro (by assumption) (by omega)) | grind) ?_)
        rw [if_neg (by omega)] at hz
        subst hz
        exact TLe.refl _
      · refine Do.skip ?_
        simp [go_sem]
        apply k18_; clear k18_
        refine Do.seqk fun _ k21_ => ?_
        refine Do.region [4] true ?_
        simp [go_sem]
        apply k21_; clear k21_
        refine Do.ret ?_
        simp [endQ, rets, ret1, go_sem]
        repeat (refine And.intro (by first | omega | (intros; omega) | (intros; exact And.intro (by assumption) (by omega)) | grind) ?_)
        rw [if_pos (by omega)] at hz
        subst hz
        exact TLe.refl _
/-- A rational number with the denominator 1, rounded, or the error. -/
def roundQ (f p r : Int) (n : Bool) (m : List Nat) : Flt × Int × Int :=
  if checkQ r m [1] ≠ 0 then (⟨0, false, 0, 0⟩, 0, checkQ r m [1]) else if fmOk f p = false then (⟨0, false, 0, 0⟩, 0, 150)
  else if val m = 0 then (⟨0, false, 0, 0⟩, 0, 0) else ((roundP f p r n (val m) 0 false).1, (roundP f p r n (val m) 0 false).2, 0)
theorem checkQ_zero {r : Int} {m d : List Nat} (h : checkQ r m d = 0) : m.length ≤ 4096 ∧ d.length ≤ 4096 ∧ val d ≠ 0 ∧ 0 ≤ r ∧ r ≤ 4 := by
  unfold checkQ at h
  split at h
  · omega
  · split at h
    · omega
    · split at h <;> omega
theorem Round_err20 {f p r : Int} {n : Bool} {m d : List Nat} (hm : Sh m) (hd : Sh d) (h : checkQ r m d ≠ 0) : Does Tryz.prog Gv 57 [Fm f p, .c (.i .i64 r), Qr n m d] (.t [Flt.pv ⟨0, false, 0, 0⟩, .c (.i .i64 0), .c (.i .i64 (checkQ r m d))]) := by
  have hC := @check_does20 r n m d hm hd
  generalize checkQ r m d = z at *
  have hz : (z != 0) = true := by simpa using h
  have hz2 : (z == 0) = false := by simpa using h
  refine Does.of (nt := 46) Tryz.func57 rfl rfl rfl (by simp) ?_
  simp only [argTm, PV.ext, Ce.ext]
  refine Do.seqk fun _ k1_ => ?_
  refine Do.region [1,3,5,6] true ?_
  simp [go_sem]
  apply k1_; clear k1_
  refine Do.seqk fun _ k2_ => ?_
  refine Do.region [1,3,5,6,9] true ?_
  simp [go_sem]
  repeat (refine And.intro (by first | omega | (intros; omega) | (intros; exact And.intro (by assumption) (by omega)) | grind) ?_)
  refine DoL.sealS true 103 102 rfl ?_
  simp [go_sem]
  refine DoL.call true 104 rfl rfl rfl rfl (by first | exact trivial | omega | (simp; done) | (simp; omega)) (hC) rfl (by first | exact .inl rfl | exact .inr rfl) rfl ?_
  simp [go_sem]
  apply k2_; clear k2_
  refine Do.seqk fun _ k3_ => ?_
  refine Do.seqk fun _ k4_ => ?_
  refine Do.region [1,3,5,6,9,17] true ?_
  simp [go_sem, hz, hz2]
  apply k4_; clear k4_
  refine Do.cond [1,3,5,6,9] rfl (fun g1 => ?_) (fun g1 => ?_) <;> simp [go_sem, hz, hz2] at g1 ⊢
  refine Do.skip ?_
  simp [go_sem]
  apply k3_; clear k3_
  refine Do.seqk fun _ k5_ => ?_
  refine Do.seqk fun _ k6_ => ?_
  refine Do.region [1,3,5,6,9,27] true ?_
  simp [go_sem, hz, hz2]
  repeat (refine And.intro (by first | omega | (intros; omega) | (intros; exact And.intro (by assumption) (by omega)) | grind) ?_)
  refine DoL.gOff true 407 rfl rfl (.v (.c (.b false))) rfl ?_
  simp [go_sem, hz, hz2]
  apply k6_; clear k6_
  refine Do.cond [1,3,5,6,9] rfl (fun g2 => ?_) (fun g2 => ?_) <;> simp [go_sem, hz, hz2] at g2 ⊢
  refine Do.seqk fun _ k7_ => ?_
  refine Do.region [6,7,8] true ?_
  simp [go_sem, hz, hz2]
  repeat (refine And.intro (by first | omega | (intros; omega) | (intros; exact And.intro (by assumption) (by omega)) | grind) ?_)
  apply k7_; clear k7_
  refine Do.ret ?_
  simp [endQ, rets, ret1, go_sem, hz, hz2]
  repeat (refine And.intro (by first | omega | (intros; omega) | (intros; exact And.intro (by assumption) (by omega)) | grind) ?_)
  exact TLe.t (.cons (PLe.flt (ret_z rfl)) (.cons (PLe.refl _) (.cons (PLe.refl _) .nil)))
theorem Round_fmt20 {f p r : Int} {n : Bool} {m d : List Nat} (hm : Sh m) (hd : Sh d) (h : checkQ r m d = 0) (hf : fmOk f p = false) : Does Tryz.prog Gv 57 [Fm f p, .c (.i .i64 r), Qr n m d] (.t [Flt.pv ⟨0, false, 0, 0⟩, .c (.i .i64 0), .c (.i .i64 150)]) := by
  have hC := @check_does20 r n m d hm hd
  rw [h] at hC
  have hF := @Check_does Gv f p
  rw [if_neg (by simp [hf])] at hF
  refine Does.of (nt := 46) Tryz.func57 rfl rfl rfl (by simp) ?_
  simp only [argTm, PV.ext, Ce.ext]
  refine Do.seqk fun _ k1_ => ?_
  refine Do.region [1,3,5,6] true ?_
  simp [go_sem]
  apply k1_; clear k1_
  refine Do.seqk fun _ k2_ => ?_
  refine Do.region [1,3,5,6,9] true ?_
  simp [go_sem]
  repeat (refine And.intro (by first | omega | (intros; omega) | (intros; exact And.intro (by assumption) (by omega)) | grind) ?_)
  refine DoL.sealS true 103 102 rfl ?_
  simp [go_sem]
  refine DoL.call true 104 rfl rfl rfl rfl (by first | exact trivial | omega | (simp; done) | (simp; omega)) (hC) rfl (by first | exact .inl rfl | exact .inr rfl) rfl ?_
  simp [go_sem]
  apply k2_; clear k2_
  refine Do.seqk fun _ k3_ => ?_
  refine Do.seqk fun _ k4_ => ?_
  refine Do.region [1,3,5,6,9,17] true ?_
  simp [go_sem]
  apply k4_; clear k4_
  refine Do.cond [1,3,5,6,9] rfl (fun g1 => ?_) (fun g1 => ?_) <;> simp [go_sem] at g1 ⊢
  refine Do.region [1,3,5,6,9] true ?_
  simp [go_sem]
  repeat (refine And.intro (by first | omega | (intros; omega) | (intros; exact And.intro (by assumption) (by omega)) | grind) ?_)
  refine DoL.call true 302 rfl rfl rfl rfl (by first | exact trivial | omega | (simp; done) | (simp; omega)) (hF) rfl (by first | exact .inl rfl | exact .inr rfl) rfl ?_
  simp [go_sem]
  apply k3_; clear k3_
  refine Do.seqk fun _ k5_ => ?_
  refine Do.seqk fun _ k6_ => ?_
  refine Do.region [1,3,5,6,9,27] true ?_
  simp [go_sem]
  repeat (refine And.intro (by first | omega | (intros; omega) | (intros; exact And.intro (by assumption) (by omega)) | grind) ?_)
  refine DoL.gOff true 407 rfl rfl (.v (.c (.b false))) rfl ?_
  simp [go_sem]
  apply k6_; clear k6_
  refine Do.cond [1,3,5,6,9] rfl (fun g2 => ?_) (fun g2 => ?_) <;> simp [go_sem] at g2 ⊢
  refine Do.seqk fun _ k7_ => ?_
  refine Do.region [6,7,8] true ?_
  simp [go_sem]
  repeat (refine And.intro (by first | omega | (intros; omega) | (intros; exact And.intro (by assumption) (by omega)) | grind) ?_)
  apply k7_; clear k7_
  refine Do.ret ?_
  simp [endQ, rets, ret1, go_sem]
  repeat (refine And.intro (by first | omega | (intros; omega) | (intros; exact And.intro (by assumption) (by omega)) | grind) ?_)
  exact TLe.t (.cons (PLe.flt (ret_z rfl)) (.cons (PLe.refl _) (.cons (PLe.refl _) .nil)))
theorem Round_zero20 {f p r : Int} {n : Bool} {m d : List Nat} (hm : Sh m) (hd : Sh d) (h : checkQ r m d = 0) (hf : fmOk f p = true) (h0 : val m = 0) : Does Tryz.prog Gv 57 [Fm f p, .c (.i .i64 r), Qr n m d] (.t [Flt.pv ⟨0, false, 0, 0⟩, .c (.i .i64 0), .c (.i .i64 0)]) := by
  have hC := @check_does20 r n m d hm hd
  rw [h] at hC
  have hF := @Check_does Gv f p
  rw [if_pos hf] at hF
  have hZ := @Zero_does Gv m hm
  rw [decide_eq_true h0] at hZ
  refine Does.of (nt := 46) Tryz.func57 rfl rfl rfl (by simp) ?_
  simp only [argTm, PV.ext, Ce.ext]
  refine Do.seqk fun _ k1_ => ?_
  refine Do.region [1,3,5,6] true ?_
  simp [go_sem]
  apply k1_; clear k1_
  refine Do.seqk fun _ k2_ => ?_
  refine Do.region [1,3,5,6,9] true ?_
  simp [go_sem]
  repeat (refine And.intro (by first | omega | (intros; omega) | (intros; exact And.intro (by assumption) (by omega)) | grind) ?_)
  refine DoL.sealS true 103 102 rfl ?_
  simp [go_sem]
  refine DoL.call true 104 rfl rfl rfl rfl (by first | exact trivial | omega | (simp; done) | (simp; omega)) (hC) rfl (by first | exact .inl rfl | exact .inr rfl) rfl ?_
  simp [go_sem]
  apply k2_; clear k2_
  refine Do.seqk fun _ k3_ => ?_
  refine Do.seqk fun _ k4_ => ?_
  refine Do.region [1,3,5,6,9,17] true ?_
  simp [go_sem]
  apply k4_; clear k4_
  refine Do.cond [1,3,5,6,9] rfl (fun g1 => ?_) (fun g1 => ?_) <;> simp [go_sem] at g1 ⊢
  refine Do.region [1,3,5,6,9] true ?_
  simp [go_sem]
  repeat (refine And.intro (by first | omega | (intros; omega) | (intros; exact And.intro (by assumption) (by omega)) | grind) ?_)
  refine DoL.call true 302 rfl rfl rfl rfl (by first | exact trivial | omega | (simp; done) | (simp; omega)) (hF) rfl (by first | exact .inl rfl | exact .inr rfl) rfl ?_
  simp [go_sem]
  apply k3_; clear k3_
  refine Do.seqk fun _ k5_ => ?_
  refine Do.seqk fun _ k6_ => ?_
  refine Do.region [1,3,5,6,9,27] true ?_
  simp [go_sem]
  repeat (refine And.intro (by first | omega | (intros; omega) | (intros; exact And.intro (by assumption) (by omega)) | grind) ?_)
  refine DoL.callg true 407 rfl rfl rfl rfl rfl (by simp [go_sem] <;> omega) (fun _ => hZ) rfl (by first | exact .inl rfl | exact .inr rfl) rfl ?_
  simp [go_sem]
  apply k6_; clear k6_
  refine Do.cond [1,3,5,6,9] rfl (fun g2 => ?_) (fun g2 => ?_) <;> simp [go_sem] at g2 ⊢
  refine Do.seqk fun _ k7_ => ?_
  refine Do.region [6,7,8] true ?_
  simp [go_sem]
  repeat (refine And.intro (by first | omega | (intros; omega) | (intros; exact And.intro (by assumption) (by omega)) | grind) ?_)
  apply k7_; clear k7_
  refine Do.ret ?_
  simp [endQ, rets, ret1, go_sem]
  repeat (refine And.intro (by first | omega | (intros; omega) | (intros; exact And.intro (by assumption) (by omega)) | grind) ?_)
  exact TLe.t (.cons (PLe.flt (ret_z rfl)) (.cons (PLe.refl _) (.cons (PLe.refl _) .nil)))
theorem Round_one {f p r : Int} {n : Bool} {m : List Nat} (hm : Sh m) (wm : Ws m) : Does Tryz.prog Gv 57 [Fm f p, .c (.i .i64 r), Qr n m [1]] (Res (roundQ f p r n m)) := by
  unfold roundQ
  by_cases h : checkQ r m [1] = 0
  · rw [if_neg (by omega)]
    cases hf : fmOk f p with
    | false => rw [if_pos rfl]; exact Round_fmt20 hm (by decide) h hf
    | true =>
      rw [if_neg (by simp)]
      by_cases h0 : val m = 0
      · rw [if_pos h0]; exact Round_zero20 hm (by decide) h hf h0
      · rw [if_neg h0]
        obtain ⟨c1, c2, c3, c4, c5⟩ := checkQ_zero h
        have hC := @check_does20 r n m [1] hm (by decide)
        rw [h] at hC
        have hF := @Check_does Gv f p
        rw [if_pos hf] at hF
        have hZ := @Zero_does Gv m hm
        rw [decide_eq_false h0] at hZ
        have hR := @Ratio_one f p r hf c4 c5 n m c1 wm (by omega)
        generalize roundP f p r n (val m) 0 false = z at *
        refine Does.of (nt := 46) Tryz.func57 rfl rfl rfl (by simp) ?_
        simp only [argTm, PV.ext, Ce.ext]
        refine Do.seqk fun _ k1_ => ?_
        refine Do.region [1,3,5,6] true ?_
        simp [go_sem]
        apply k1_; clear k1_
        refine Do.seqk fun _ k2_ => ?_
        refine Do.region [1,3,5,6,9] true ?_
        simp [go_sem]
        repeat (refine And.intro (by first | omega | (intros; omega) | (intros; exact And.intro (by assumption) (by omega)) | grind) ?_)
        refine DoL.sealS true 103 102 rfl ?_
        simp [go_sem]
        refine DoL.call true 104 rfl rfl rfl rfl (by first | exact trivial | omega | (simp; done) | (simp; omega)) (hC) rfl (by first | exact .inl rfl | exact .inr rfl) rfl ?_
        simp [go_sem]
        apply k2_; clear k2_
        refine Do.seqk fun _ k3_ => ?_
        refine Do.seqk fun _ k4_ => ?_
        refine Do.region [1,3,5,6,9,17] true ?_
        simp [go_sem]
        apply k4_; clear k4_
        refine Do.cond [1,3,5,6,9] rfl (fun g1 => ?_) (fun g1 => ?_) <;> simp [go_sem] at g1 ⊢
        refine Do.region [1,3,5,6,9] true ?_
        simp [go_sem]
        repeat (refine And.intro (by first | omega | (intros; omega) | (intros; exact And.intro (by assumption) (by omega)) | grind) ?_)
        refine DoL.call true 302 rfl rfl rfl rfl (by first | exact trivial | omega | (simp; done) | (simp; omega)) (hF) rfl (by first | exact .inl rfl | exact .inr rfl) rfl ?_
        simp [go_sem]
        apply k3_; clear k3_
        refine Do.seqk fun _ k5_ => ?_
        refine Do.seqk fun _ k6_ => ?_
        refine Do.region [1,3,5,6,9,27] true ?_
        simp [go_sem]
        repeat (refine And.intro (by first | omega | (intros; omega) | (intros; exact And.intro (by assumption) (by omega)) | grind) ?_)
        refine DoL.callg true 407 rfl rfl rfl rfl rfl (by simp [go_sem] <;> omega) (fun _ => hZ) rfl (by first | exact .inl rfl | exact .inr rfl) rfl ?_
        simp [go_sem]
        apply k6_; clear k6_
        refine Do.cond [1,3,5,6,9] rfl (fun g2 => ?_) (fun g2 => ?_) <;> simp [go_sem] at g2 ⊢
        refine Do.skip ?_
        simp [go_sem]
        apply k5_; clear k5_
        refine Do.seqk fun _ k7_ => ?_
        refine Do.region [6,10,11] true ?_
        simp [go_sem]
        repeat (refine And.intro (by first | omega | (intros; omega) | (intros; exact And.intro (by assumption) (by omega)) | grind) ?_)
        refine DoL.call true 611 rfl rfl rfl rfl (by first | exact trivial | omega | (simp; done) | (simp; omega)) (hR) rfl (by first | exact .inl rfl | exact .inr rfl) rfl ?_
        simp [go_sem]
        repeat (refine And.intro (by first | omega | (intros; omega) | (intros; exact And.intro (by assumption) (by omega)) | grind) ?_)
        apply k7_; clear k7_
        refine Do.seqk fun _ k8_ => ?_
        refine Do.region [6,7,8] true ?_
        simp [go_sem]
        repeat (refine And.intro (by first | omega | (intros; omega) | (intros; exact And.intro (by assumption) (by omega)) | grind) ?_)
        apply k8_; clear k8_
        refine Do.ret ?_
        simp [endQ, rets, ret1, go_sem]
        repeat (refine And.intro (by first | omega | (intros; omega) | (intros; exact And.intro (by assumption) (by omega)) | grind) ?_)
        exact TLe.refl _
  · rw [if_pos h]; exact Round_err20 hm (by decide) h
theorem ws_one {w : Nat} (h : w < 18446744073709551616) : Ws [w] := fun u hu => by simp at hu; omega
theorem awk_round : roundQ 5 11 2 false [2049] = (⟨1, false, 11, 1⟩, 1, 0) := by kernel_rfl
theorem Odd_awake : Does Tryz.prog Gv 20 [Fm 5 11, Qr false [2049] [1]] (.t [Flt.pv ⟨1, false, 1, 1025⟩, .c (.i .i64 1), .c (.i .i64 0)]) := by
  have hR := @Round_one 5 11 2 false [2049] (by decide) (ws_one (by decide))
  rw [awk_round] at hR
  have hR : Does Tryz.prog Gv 57 [Fm 5 11, .c (.i .i64 2), Qr false [2049] [1]] (.t [Fl 1 false 11 (nat 1), .c (.i .i64 1), .c (.i .i64 0)]) := hR
  rw [nat_one] at hR
  have hG : Does Tryz.prog Gv 58 [Fm 5 11] (.t [.c (.i .i64 (-14)), .c (.i .i64 15), .c (.i .i64 (-24)), .c (.i .i64 0)]) := @Range_does Gv 5 11 rfl
  have hL : Does Tryz.prog Gv 59 [Fm 5 11] (.t [Fl 1 false 5 (nat 2047), (Flt.mk 1 false (-14) 1).pv, (Flt.mk 1 false (-24) 1).pv, .c (.i .i64 0)]) := @Limits_does Gv 5 11 rfl
  have hS1 : Does Tryz.prog Gv 61 [Fm 5 11, .c (.i .i64 (-14))] (.v (.c (.i .i64 (-24)))) := @Step_does Gv 5 11 (-14) rfl (by decide) (by decide)
  have hS2 : Does Tryz.prog Gv 61 [Fm 5 11, .c (.i .i64 11)] (.v (.c (.i .i64 1))) := @Step_does Gv 5 11 11 rfl (by decide) (by decide)
  have hN : Does Tryz.prog Gv 62 [Wd [1]] (.int .i64 1) := @Len_does Gv [1] (by decide) (ws_one (by decide))
  have hSh : Does Tryz.prog Gv 65 [Wd [1], .c (.i .i64 10)] (.v (Wn (nat 1024))) := @Shl_does Gv [1] (by decide) (ws_one (by decide)) 10 (by decide)
  have hA := @Add_does Gv (nat 1024) [1] (by rw [nat_word (by decide) (by decide)]; decide) (by decide) (nat_ws _) (ws_one (by decide)) (by rw [nat_word (by decide) (by decide)]; decide) (by decide)
  rw [val_nat, show 1024 + val [1] = 1025 from rfl] at hA
  have hM := @Make_does false (nat 1025) 1 (by rw [nat_word (by decide) (by decide)]; decide) (nat_ws _) (by decide) (by decide)
  rw [val_nat, show mkP false 1025 1 = ⟨1, false, 1, 1025⟩ by kernel_rfl] at hM
  refine Does.of (nt := 109) Tryz.func20 rfl rfl rfl (by simp) ?_
  simp only [argTm, PV.ext, Ce.ext]
  refine Do.seqk fun _ k1_ => ?_
  refine Do.region [2,3,4] true ?_
  simp [go_sem]
  apply k1_; clear k1_
  refine Do.seqk fun _ k2_ => ?_
  refine Do.region [2,3,4,7,8,9] true ?_
  simp [go_sem]
  repeat (refine And.intro (by first | omega | (intros; omega) | (intros; exact And.intro (by assumption) (by omega)) | grind) ?_)
  refine DoL.call true 103 rfl rfl rfl rfl (by first | exact trivial | omega | (simp; done) | (simp; omega)) (hR) rfl (by first | exact .inl rfl | exact .inr rfl) rfl ?_
  simp [go_sem]
  repeat (refine And.intro (by first | omega | (intros; omega) | (intros; exact And.intro (by assumption) (by omega)) | grind) ?_)
  apply k2_; clear k2_
  refine Do.seqk fun _ k3_ => ?_
  refine Do.seqk fun _ k4_ => ?_
  refine Do.region [2,3,4,7,8,9,31] true ?_
  simp [go_sem]
  apply k4_; clear k4_
  refine Do.cond [2,3,4,7,8,9] rfl (fun g1 => ?_) (fun g1 => ?_) <;> simp [go_sem] at g1 ⊢
  refine Do.skip ?_
  simp [go_sem]
  apply k3_; clear k3_
  refine Do.seqk fun _ k5_ => ?_
  refine Do.region [2,3,4,7,8,10] true ?_
  simp [go_sem]
  repeat (refine And.intro (by first | omega | (intros; omega) | (intros; exact And.intro (by assumption) (by omega)) | grind) ?_)
  refine DoL.call true 402 rfl rfl rfl rfl (by first | exact trivial | omega | (simp; done) | (simp; omega)) (hG) rfl (by first | exact .inl rfl | exact .inr rfl) rfl ?_
  simp [go_sem]
  apply k5_; clear k5_
  refine Do.seqk fun _ k6_ => ?_
  refine Do.seqk fun _ k7_ => ?_
  refine Do.region [2,3,4,7,8,10,14] true ?_
  simp [go_sem]
  repeat (refine And.intro (by first | omega | (intros; omega) | (intros; exact And.intro (by assumption) (by omega)) | grind) ?_)
  refine DoL.call true 502 rfl rfl rfl rfl (by first | exact trivial | omega | (simp; done) | (simp; omega)) (hL) rfl (by first | exact .inl rfl | exact .inr rfl) rfl ?_
  simp [go_sem]
  repeat (refine And.intro (by first | omega | (intros; omega) | (intros; exact And.intro (by assumption) (by omega)) | grind) ?_)
  apply k7_; clear k7_
  refine Do.seqk fun _ k8_ => ?_
  refine Do.region [2,3,4,7,8,10,66] true ?_
  simp [go_sem]
  repeat (refine And.intro (by first | omega | (intros; omega) | (intros; exact And.intro (by assumption) (by omega)) | grind) ?_)
  refine DoL.gOff true 616 rfl rfl (.int .i64 0) rfl ?_
  simp [go_sem]
  apply k8_; clear k8_
  refine Do.cond [2,3,4,7,8,10] rfl (fun g2 => ?_) (fun g2 => ?_) <;> simp [go_sem] at g2 ⊢
  refine Do.skip ?_
  simp [go_sem]
  apply k6_; clear k6_
  refine Do.seqk fun _ k9_ => ?_
  refine Do.region [2,3,4,7,8,18] true ?_
  simp [go_sem]
  repeat (refine And.intro (by first | omega | (intros; omega) | (intros; exact And.intro (by assumption) (by omega)) | grind) ?_)
  refine DoL.call true 803 rfl rfl rfl rfl (by first | exact trivial | omega | (simp; done) | (simp; omega)) (hS1) rfl (by first | exact .inl rfl | exact .inr rfl) rfl ?_
  simp [go_sem]
  apply k9_; clear k9_
  refine Do.seqk fun _ k10_ => ?_
  refine Do.seqk fun _ k11_ => ?_
  refine Do.region [2,3,4,7,8,18,73] true ?_
  simp [go_sem]
  repeat (refine And.intro (by first | omega | (intros; omega) | (intros; exact And.intro (by assumption) (by omega)) | grind) ?_)
  apply k11_; clear k11_
  refine Do.cond [2,3,4,7,8,18] rfl (fun g3 => ?_) (fun g3 => ?_) <;> simp [go_sem] at g3 ⊢
  refine Do.draw [3,4,7,8,18] true (by kernel_rfl) ?_
  simp [go_sem]
  repeat (refine And.intro (by first | omega | (intros; omega) | (intros; exact And.intro (by assumption) (by omega)) | kernel_rfl | grind) ?_)
  refine DoLD.call true 1006 rfl rfl rfl rfl (by first | exact trivial | omega | (simp; done) | (simp; omega)) (hN) rfl (by first | exact .inl rfl | exact .inr rfl) rfl ?_
  simp [go_sem]
  repeat (refine And.intro (by first | omega | (intros; omega) | (intros; exact And.intro (by assumption) (by omega)) | kernel_rfl | grind) ?_)
  refine DoLD.call true 1009 rfl rfl rfl rfl (by first | exact trivial | omega | (simp; done) | (simp; omega)) (hS2) rfl (by first | exact .inl rfl | exact .inr rfl) rfl ?_
  simp [go_sem]
  try (refine And.intro (by kernel_rfl) ?_)
  apply k10_; clear k10_
  refine Do.seqk fun _ k12_ => ?_
  refine Do.seqk fun _ k13_ => ?_
  refine Do.region [3,4,7,8,18,91] true ?_
  simp [go_sem]
  repeat (refine And.intro (by first | omega | (intros; omega) | (intros; exact And.intro (by assumption) (by omega)) | grind) ?_)
  apply k13_; clear k13_
  refine Do.cond [3,4,7,8,18] rfl (fun g4 => ?_) (fun g4 => ?_) <;> simp [go_sem] at g4 ⊢
  refine Do.draw [4,7,8] true (by kernel_rfl) ?_
  simp [go_sem]
  repeat (refine And.intro (by first | omega | (intros; omega) | (intros; exact And.intro (by assumption) (by omega)) | kernel_rfl | grind) ?_)
  refine DoLD.call true 1211 rfl rfl rfl rfl (by first | exact trivial | omega | (simp; done) | (simp; omega)) (hSh) rfl (by first | exact .inl rfl | exact .inr rfl) rfl ?_
  simp [go_sem]
  refine DoLD.call true 1213 rfl rfl rfl rfl (by first | exact trivial | omega | (simp; done) | (simp; omega)) (hA) rfl (by first | exact .inl rfl | exact .inr rfl) rfl ?_
  simp [go_sem]
  refine DoLD.call true 1215 rfl rfl rfl rfl (by first | exact trivial | omega | (simp; done) | (simp; omega)) (hM) rfl (by first | exact .inl rfl | exact .inr rfl) rfl ?_
  simp [go_sem]
  repeat (refine And.intro (by first | omega | (intros; omega) | (intros; exact And.intro (by assumption) (by omega)) | kernel_rfl | grind) ?_)
  try (refine And.intro (by kernel_rfl) ?_)
  apply k12_; clear k12_
  refine Do.seqk fun _ k14_ => ?_
  refine Do.region [4,5,6] true ?_
  simp [go_sem]
  repeat (refine And.intro (by first | omega | (intros; omega) | (intros; exact And.intro (by assumption) (by omega)) | grind) ?_)
  apply k14_; clear k14_
  refine Do.ret ?_
  simp [endQ, rets, ret1, go_sem]
  repeat (refine And.intro (by first | omega | (intros; omega) | (intros; exact And.intro (by assumption) (by omega)) | grind) ?_)
  exact TLe.refl _
theorem NoInt_does20 {z : Int} {n : Bool} {m : List Nat} (hm : Sh m) : Does Tryz.prog Gv 27 [.a [.b n, .w false m]] (.v (.c (.b (!n && decide (m = []))))) := by
  have hl : decide (((m.length : Nat) : Int) = 0) = decide (m = []) := by
    congr 1
    cases m <;> simp
    omega
  refine Does.of (nt := 12) Tryz.func27 rfl rfl rfl (by simp) ?_
  simp only [argTm, PV.ext, Ce.ext]
  refine Do.seqk fun _ k1_ => ?_
  refine Do.region [1] true ?_
  simp [go_sem]
  apply k1_; clear k1_
  refine Do.seqk fun _ k2_ => ?_
  refine Do.region [2] true ?_
  simp [go_sem]
  repeat (refine And.intro (by first | omega | (intros; omega) | (intros; exact And.intro (by assumption) (by omega)) | grind) ?_)
  apply k2_; clear k2_
  refine Do.ret ?_
  simp [endQ, rets, ret1, go_sem]
  repeat (refine And.intro (by first | omega | (intros; omega) | (intros; exact And.intro (by assumption) (by omega)) | grind) ?_)
  exact ret_b (by cases m with | nil => simp | cons a l => simp; intro _; omega)
theorem awk_conv : convP 8 24 5 11 0 ⟨1, false, 4, [4095]⟩ = (⟨2, false, 0, 0⟩, 5, 0) := by kernel_rfl
theorem awk_fit : fitP 5 11 8 24 = true := by kernel_rfl
theorem awk_toE : argsC 5 11 5 11 3 false ⟨1, true, -1, [1]⟩ = 0 := by kernel_rfl
theorem awk_toA : (holdsP 5 11 ⟨1, true, -1, 1⟩).1 = ⟨1, true, -1, 1⟩ := by kernel_rfl
theorem awk_toW : wholeP 3 ⟨true, 1, -1⟩ = (0, false) := by kernel_rfl
theorem awake20_does : Does Tryz.prog Gv 11 [] (.v (.c (.b true))) := by
  have o1 : (Fla.mk 1 false 4 [4095]).Ok := ⟨by simp [Sh], ws_one (by decide), by constructor <;> simp⟩
  have o2 : (Fla.mk 1 true (-1) [1]).Ok := ⟨by simp [Sh], ws_one (by decide), by constructor <;> simp⟩
  have h1 := Convert_does (f := 8) (p := 24) (g := 5) (q := 11) (r := 0) o1
  rw [awk_conv] at h1
  have h1 : Does Tryz.prog Gv 12 [Fm 8 24, Fm 5 11, .c (.i .i64 0), Fl 1 false 4 [4095]] (.t [Fl 2 false 0 (nat 0), .c (.i .i64 5), .c (.i .i64 0)]) := h1
  have h2 := @Fit_does20 5 11 8 24 rfl rfl
  rw [awk_fit] at h2
  have h3 := @ToInt_does 5 11 3 ⟨1, true, -1, [1]⟩ o2 awk_toE ⟨1, true, -1, 1⟩ awk_toA (.inr rfl) ⟨by decide, by decide⟩
  have h3 : Does Tryz.prog Gv 25 [Fm 5 11, .c (.i .i64 3), Fl 1 true (-1) [1]] (.t [Iv (sgn true (wholeP 3 ⟨true, 1, -1⟩).1), .c (.i .i64 (if (wholeP 3 ⟨true, 1, -1⟩).2 then 0 else 1)), .c (.i .i64 0)]) := h3
  rw [awk_toW] at h3
  have h3 : Does Tryz.prog Gv 25 [Fm 5 11, .c (.i .i64 3), Fl 1 true (-1) [1]] (.t [.a [.b false, .w false (nat 0)], .c (.i .i64 1), .c (.i .i64 0)]) := h3
  have h4 := Odd_awake
  have h4 : Does Tryz.prog Gv 20 [Fm 5 11, Qr false [2049] [1]] (.t [Fl 1 false 1 (nat 1025), .c (.i .i64 1), .c (.i .i64 0)]) := h4
  have h5 := @NoInt_does20 0 false [] (by decide)
  rw [nat_zero] at h1 h3
  rw [nat_word (by decide) (by decide)] at h4
  refine Does.of (nt := 107) Tryz.func11 rfl rfl rfl (by simp) ?_
  simp only [argTm, PV.ext, Ce.ext]
  refine Do.seqk fun _ k1_ => ?_
  refine Do.region [] true ?_
  simp [go_sem]
  apply k1_; clear k1_
  refine Do.seqk fun _ k2_ => ?_
  refine Do.region [1] true ?_
  simp [go_sem]
  repeat (refine And.intro (by first | omega | (intros; omega) | (intros; exact And.intro (by assumption) (by omega)) | grind) ?_)
  apply k2_; clear k2_
  refine Do.seqk fun _ k3_ => ?_
  refine Do.region [1,2] true ?_
  simp [go_sem]
  repeat (refine And.intro (by first | omega | (intros; omega) | (intros; exact And.intro (by assumption) (by omega)) | grind) ?_)
  apply k3_; clear k3_
  refine Do.seqk fun _ k4_ => ?_
  refine Do.region [1,2,3] true ?_
  simp [go_sem]
  repeat (refine And.intro (by first | omega | (intros; omega) | (intros; exact And.intro (by assumption) (by omega)) | grind) ?_)
  apply k4_; clear k4_
  refine Do.seqk fun _ k5_ => ?_
  refine Do.frz 300 rfl ?_
  refine Do.region [1,2,4,5,6] true ?_
  simp [go_sem]
  repeat (refine And.intro (by first | omega | (intros; omega) | (intros; exact And.intro (by assumption) (by omega)) | grind) ?_)
  refine DoL.call true 404 rfl rfl rfl rfl (by first | exact trivial | omega | (simp; done) | (simp; omega)) (h1) rfl (by first | exact .inl rfl | exact .inr rfl) rfl ?_
  simp [go_sem]
  repeat (refine And.intro (by first | omega | (intros; omega) | (intros; exact And.intro (by assumption) (by omega)) | grind) ?_)
  apply k5_; clear k5_
  refine Do.seqk fun _ k6_ => ?_
  refine Do.region [1,4,5,6,7,8] true ?_
  simp [go_sem]
  repeat (refine And.intro (by first | omega | (intros; omega) | (intros; exact And.intro (by assumption) (by omega)) | grind) ?_)
  refine DoL.call true 503 rfl rfl rfl rfl (by first | exact trivial | omega | (simp; done) | (simp; omega)) (h2) rfl (by first | exact .inl rfl | exact .inr rfl) rfl ?_
  simp [go_sem]
  apply k6_; clear k6_
  refine Do.seqk fun _ k7_ => ?_
  refine Do.region [1,4,5,6,7,8,9,10,11] true ?_
  simp [go_sem]
  repeat (refine And.intro (by first | omega | (intros; omega) | (intros; exact And.intro (by assumption) (by omega)) | grind) ?_)
  refine DoL.frz true 603 601 rfl ?_
  simp [go_sem]
  refine DoL.call true 604 rfl rfl rfl rfl (by first | exact trivial | omega | (simp; done) | (simp; omega)) (h3) rfl (by first | exact .inl rfl | exact .inr rfl) rfl ?_
  simp [go_sem]
  repeat (refine And.intro (by first | omega | (intros; omega) | (intros; exact And.intro (by assumption) (by omega)) | grind) ?_)
  apply k7_; clear k7_
  refine Do.seqk fun _ k8_ => ?_
  refine Do.region [4,5,6,7,8,9,10,11,12,13,14] true ?_
  simp [go_sem]
  repeat (refine And.intro (by first | omega | (intros; omega) | (intros; exact And.intro (by assumption) (by omega)) | grind) ?_)
  refine DoL.frz true 705 701 rfl ?_
  simp [go_sem]
  refine DoL.frz true 705 703 rfl ?_
  simp [go_sem]
  refine DoL.call true 706 rfl rfl rfl rfl (by first | exact trivial | omega | (simp; done) | (simp; omega)) (h4) rfl (by first | exact .inl rfl | exact .inr rfl) rfl ?_
  simp [go_sem]
  repeat (refine And.intro (by first | omega | (intros; omega) | (intros; exact And.intro (by assumption) (by omega)) | grind) ?_)
  apply k8_; clear k8_
  refine Do.seqk fun _ k9_ => ?_
  refine Do.region [0] true ?_
  simp [go_sem]
  repeat (refine And.intro (by first | omega | (intros; omega) | (intros; exact And.intro (by assumption) (by omega)) | grind) ?_)
  refine DoL.callg true 829 rfl rfl rfl rfl rfl (by simp [go_sem] <;> omega) (fun _ => h5) rfl (by first | exact .inl rfl | exact .inr rfl) rfl ?_
  simp [go_sem]
  repeat (refine And.intro (by first | omega | (intros; omega) | (intros; exact And.intro (by assumption) (by omega)) | grind) ?_)
  apply k9_; clear k9_
  refine Do.ret ?_
  simp [endQ, rets, ret1, go_sem]
  repeat (refine And.intro (by first | omega | (intros; omega) | (intros; exact And.intro (by assumption) (by omega)) | grind) ?_)
  exact TLe.refl _
end Go.Proofs.YtokgalpflooegaaGreatDoor
/- The law ConvertFormats. No condition. -/
namespace Go.Proofs.YtokgalpflooegaaGreatDoor
set_option linter.unusedVariables false
set_option linter.unusedSimpArgs false
set_option maxHeartbeats 4000000
set_option maxRecDepth 10000
theorem sgn_dec {n : Bool} {v : Nat} (h : v ≠ 0) : decide (sgn n v < 0) = n := by
  cases n
  · simp [sgn]
  · simp [sgn]; omega
end Go.Proofs.YtokgalpflooegaaGreatDoor
/- The law ConvertLarge. No condition. -/
namespace Go.Proofs.YtokgalpflooegaaGreatDoor
set_option linter.unusedVariables false
set_option linter.unusedSimpArgs false
set_option maxHeartbeats 4000000
set_option maxRecDepth 10000
section
variable {f p r : Int} {x : Fla}
end
end Go.Proofs.YtokgalpflooegaaGreatDoor
/- A rational number of the reference, rounded to an integer. No condition. -/
namespace Go.Proofs.YtokgalpflooegaaGreatDoor
set_option linter.unusedVariables false
set_option linter.unusedSimpArgs false
variable {G : Gl}
set_option maxHeartbeats 4000000
set_option maxRecDepth 10000
theorem sv_nat (x : Nu) (z : Int) : (x.sv z).natAbs = x.v * 2 ^ (x.e - z).toNat := by
  unfold Nu.sv
  generalize x.v * 2 ^ (x.e - z).toNat = u
  split <;> omega
theorem wholeP_bl (r : Int) (x : Nu) : bl (wholeP r x).1 ≤ bl x.v + x.e.toNat + 1 := by
  unfold wholeP
  have h1 := cutP_bl x.v (-x.e) false
  have h2 := upP_bl r x.n (cutP x.v (-x.e) false).1 (cutP x.v (-x.e) false).2
  rw [Int.neg_neg] at h1
  simp only []
  omega
theorem fv_sv {a : Flt} (hf : rcanon a = a) (hk : a.k = 0 ∨ a.k = 1) (z : Int) : fv z a = (Nu.mk a.n a.v a.e).sv z := by
  unfold fv
  split
  · rfl
  · rename_i h
    have h0 : a.v = 0 := by
      unfold rcanon at hf
      rw [if_neg h] at hf
      have := congrArg Flt.v hf
      simpa using this.symm
    unfold Nu.sv
    simp [h0]
end Go.Proofs.YtokgalpflooegaaGreatDoor
/- The law ConvertIntegrals. No condition. -/
namespace Go.Proofs.YtokgalpflooegaaGreatDoor
set_option linter.unusedVariables false
set_option linter.unusedSimpArgs false
set_option maxHeartbeats 4000000
set_option maxRecDepth 10000
/-- An integer as a float; 0 gets a sign. -/
def fromP (z : Int) (n : Bool) : Flt := if z = 0 then ⟨0, n, 0, 0⟩ else rcanon ⟨1, decide (z < 0), 0, z.natAbs⟩
theorem fromP_rest {z : Int} (h : z ≠ 0) (n : Bool) : fromP z n = restP 0 z := by
  unfold fromP restP
  rw [if_neg h, if_neg h]
theorem integral_does {f p : Int} (hf : fmOk f p = true) {z : Int} {n : Bool} (hz : bl z.natAbs ≤ 1000000) : Does Tryz.prog Gv 86 [Fm f p, Iv z, .c (.b n)] (.t [((Nu.mk (decide (z < 0)) z.natAbs 0).round f p 0 n).1.pv, .c (.b (((Nu.mk (decide (z < 0)) z.natAbs 0).round f p 0 n).2 == 0))]) := by
  have h := @NFloat_does f p 0 hf (by decide) (by decide) (Nu.mk (decide (z < 0)) z.natAbs 0) n ⟨by show (-4194304 : Int) ≤ 0; decide, by show (0 : Int) + bl z.natAbs ≤ 4194304; omega⟩
  have h : Does Tryz.prog Gv 49 [.a [.b (decide (z < 0)), .w false (nat z.natAbs), .i .i64 0], Fm f p, .c (.i .i64 0), .c (.b n)] (.t [((Nu.mk (decide (z < 0)) z.natAbs 0).round f p 0 n).1.pv, .c (.i .i64 ((Nu.mk (decide (z < 0)) z.natAbs 0).round f p 0 n).2)]) := h
  generalize (Nu.mk (decide (z < 0)) z.natAbs 0).round f p 0 n = y at *
  refine Does.of (nt := 24) Tryz.func86 rfl rfl rfl (by simp) ?_
  simp only [argTm, PV.ext, Ce.ext]
  refine Do.seqk fun _ k1_ => ?_
  refine Do.region [2,3,4,6] true ?_
  simp [go_sem]
  apply k1_; clear k1_
  refine Do.seqk fun _ k2_ => ?_
  refine Do.region [6,8,9] true ?_
  simp [go_sem]
  repeat (refine And.intro (by first | omega | (intros; omega) | (intros; exact And.intro (by assumption) (by omega)) | grind) ?_)
  refine DoL.call true 108 rfl rfl rfl rfl (by first | exact trivial | omega | (simp; done) | (simp; omega)) (h) rfl (by first | exact .inl rfl | exact .inr rfl) rfl ?_
  simp [go_sem]
  repeat (refine And.intro (by first | omega | (intros; omega) | (intros; exact And.intro (by assumption) (by omega)) | grind) ?_)
  apply k2_; clear k2_
  refine Do.seqk fun _ k3_ => ?_
  refine Do.region [6,7] true ?_
  simp [go_sem]
  repeat (refine And.intro (by first | omega | (intros; omega) | (intros; exact And.intro (by assumption) (by omega)) | grind) ?_)
  apply k3_; clear k3_
  refine Do.ret ?_
  simp [endQ, rets, ret1, go_sem]
  repeat (refine And.intro (by first | omega | (intros; omega) | (intros; exact And.intro (by assumption) (by omega)) | grind) ?_)
  exact TLe.refl _
/-- What an integer rounded to a format without flags is. -/
theorem integral_ok {f p : Int} (hf : fmOk f p = true) (z : Int) (n : Bool) : (((Nu.mk (decide (z < 0)) z.natAbs 0).round f p 0 n).2 == 0) = inP f p (fromP z n) ∧ (inP f p (fromP z n) = true → ((Nu.mk (decide (z < 0)) z.natAbs 0).round f p 0 n).1 = fromP z n) := by
  by_cases h0 : z = 0
  · subst h0
    have e : (Nu.mk (decide ((0 : Int) < 0)) (0 : Int).natAbs 0).round f p 0 n = (⟨0, n, 0, 0⟩, 0) := rfl
    rw [e]
    exact ⟨rfl, fun _ => rfl⟩
  · have hr : (Nu.mk (decide (z < 0)) z.natAbs 0).round f p 0 n = (Nu.mk (decide (z < 0)) z.natAbs 0).round f p 0 false := by
      unfold Nu.round
      simp only []
      rw [if_neg (by omega), if_neg (by omega)]
    obtain ⟨i1, i2⟩ := @inP_flags f p hf 0 z ⟨decide (z < 0), z.natAbs, 0⟩ (Int.le_refl _) (sv_abs _ _)
    rw [hr, fromP_rest h0]
    cases hi : inP f p (restP 0 z) with
    | true =>
      rw [i1 hi]
      exact ⟨rfl, fun _ => rfl⟩
    | false =>
      refine ⟨?_, fun h => by cases h⟩
      rw [beq_eq_false_iff_ne]
      intro h
      rw [i2 h] at hi
      cases hi
theorem fromP_fine {f p : Int} (hf : fmOk f p = true) {z : Int} {n : Bool} (h : inP f p (fromP z n) = true) : Fine (fromP z n) ∧ rcanon (fromP z n) = fromP z n := by
  rw [← (integral_ok hf z n).2 h]
  unfold Nu.round
  split
  · exact ⟨fine_zero, rfl⟩
  · exact ⟨roundP_fine hf, roundP_fix hf⟩
section
variable {f p r : Int} {x : Fla} {a : Flt}
end
end Go.Proofs.YtokgalpflooegaaGreatDoor
/- The integer part of a float of a format, and the rest, plain. No condition. -/
namespace Go.Proofs.YtokgalpflooegaaGreatDoor
set_option linter.unusedVariables false
set_option linter.unusedSimpArgs false
set_option maxHeartbeats 4000000
set_option maxRecDepth 10000
def truncW (a : Flt) : Nat := (wholeP 2 ⟨a.n, a.v, a.e⟩).1
/-- The integer part. -/
def truncZ (a : Flt) : Int := sgn a.n (truncW a)
/-- The rest, in units of 2^z. -/
def remN (z : Int) (a : Flt) : Nat := if 0 ≤ a.e then 0 else a.v % 2 ^ (-a.e).toNat * 2 ^ (a.e - z).toNat
def remD (z : Int) (a : Flt) : Int := sgn a.n (remN z a)
theorem truncW_eq (a : Flt) : truncW a = if 0 ≤ a.e then a.v * 2 ^ a.e.toNat else a.v / 2 ^ (-a.e).toNat := by
  have h : ∀ q c, upP 2 a.n q c = q := fun q c => by simp [upP, moreP]
  show upP 2 a.n (cutP a.v (-a.e) false).1 (cutP a.v (-a.e) false).2 = _
  rw [h]
  unfold cutP
  by_cases he : 0 ≤ a.e
  · rw [if_pos (by omega), if_pos he, Int.neg_neg]
  · rw [if_neg (by omega), if_neg he]
/-- Both parts add up to the float. -/
theorem trunc_rem {z : Int} {a : Flt} (hz : z ≤ 0) (hze : z ≤ a.e) : a.v * 2 ^ (a.e - z).toNat = truncW a * 2 ^ (-z).toNat + remN z a ∧ remN z a < 2 ^ (-z).toNat := by
  rw [truncW_eq]
  unfold remN
  by_cases he : 0 ≤ a.e
  · rw [if_pos he, if_pos he]
    refine ⟨?_, Nat.pow_pos (by decide)⟩
    rw [Nat.add_zero, Nat.mul_assoc, ← Nat.pow_add]
    congr 2; omega
  · rw [if_neg he, if_neg he]
    have e1 : 2 ^ (-z).toNat = 2 ^ (-a.e).toNat * 2 ^ (a.e - z).toNat := by rw [← Nat.pow_add]; congr 1; omega
    rw [e1, ← Nat.mul_assoc, ← Nat.add_mul]
    have h1 := Nat.div_add_mod a.v (2 ^ (-a.e).toNat)
    have h2 := Nat.mod_lt a.v (Nat.pow_pos (n := (-a.e).toNat) (show 0 < 2 by decide))
    have h3 := Nat.pow_pos (n := (a.e - z).toNat) (show 0 < 2 by decide)
    refine ⟨?_, Nat.mul_lt_mul_of_pos_right h2 h3⟩
    congr 1
    rw [Nat.mul_comm (a.v / 2 ^ (-a.e).toNat)]; omega
theorem sgn_add (n : Bool) (u v : Nat) : sgn n (u + v) = sgn n u + sgn n v := by unfold sgn; split <;> omega
theorem sgn_mul (n : Bool) (u v : Nat) : sgn n (u * v) = sgn n u * (v : Int) := by
  unfold sgn
  split
  · rw [Int.neg_mul, Int.natCast_mul]
  · rw [Int.natCast_mul]
theorem sv_sgn (x : Nu) (z : Int) : x.sv z = sgn x.n (x.v * 2 ^ (x.e - z).toNat) := rfl
theorem trunc_sum {z : Int} {a : Flt} (hz : z ≤ 0) (hze : z ≤ a.e) : (Nu.mk a.n a.v a.e).sv z = truncZ a * ((2 ^ (-z).toNat : Nat) : Int) + remD z a := by
  rw [sv_sgn]
  simp only []
  rw [(trunc_rem hz hze).1, sgn_add, sgn_mul]
  rfl
theorem restP_kind20 (z D : Int) : (restP z D).k = 0 ∨ (restP z D).k = 1 := by
  unfold restP
  split
  · exact .inl rfl
  · rw [rcanon_k]; exact .inr rfl
section
variable {f p : Int} {a : Flt}
theorem tiny_neg (hf : fmOk f p = true) : tiny f p ≤ 0 := by
  obtain ⟨b1, b2, b3, b4⟩ := fmOk_spec hf
  obtain ⟨b5, b6⟩ := gOfE_le b1 b2
  show 1 - gOfE f - (p - 1) ≤ 0
  omega
theorem trunc_flags (hf : fmOk f p = true) (hv : a.v ≠ 0) (h1 : (bl a.v : Int) ≤ p) (h2 : tiny f p ≤ a.e) (h3 : a.e + bl a.v ≤ gOfE f + 1) : ((Nu.mk (decide (truncZ a < 0)) (truncZ a).natAbs 0).round f p 0 a.n).2 = 0 := by
  have ht := tiny_neg hf
  have htd : tiny f p = 1 - gOfE f - (p - 1) := rfl
  have e1 : (truncZ a).natAbs = truncW a := sgn_abs _ _
  rw [e1]
  unfold Nu.round
  simp only []
  by_cases h0 : truncW a = 0
  · rw [if_pos h0]
  · rw [if_neg h0]
    have hw := truncW_eq a
    by_cases he : 0 ≤ a.e
    · rw [if_pos he] at hw
      rw [hw]
      have hs := @roundP_scale f p 0 (decide (truncZ a < 0)) a.v a.e.toNat a.e (Nat.pos_of_ne_zero hv)
      rw [show a.e - (a.e.toNat : Int) = 0 by omega] at hs
      rw [hs, roundP_exact hf (Nat.pos_of_ne_zero hv) (by omega) h1 h3]
    · rw [if_neg he] at hw
      have hb : bl (truncW a) = bl a.v - (-a.e).toNat := by rw [hw, bl_div]
      have hb0 := bl_pos (Nat.pos_of_ne_zero h0)
      rw [roundP_exact hf (Nat.pos_of_ne_zero h0) (by omega) (by omega) (by omega)]
theorem trunc_in (hf : fmOk f p = true) (hv : a.v ≠ 0) (h1 : (bl a.v : Int) ≤ p) (h2 : tiny f p ≤ a.e) (h3 : a.e + bl a.v ≤ gOfE f + 1) : inP f p (fromP (truncZ a) a.n) = true := by
  rw [← (integral_ok hf (truncZ a) a.n).1, trunc_flags hf hv h1 h2 h3]
  rfl
theorem rem_of (hf : fmOk f p = true) (h1 : (bl a.v : Int) ≤ p) (h2 : tiny f p ≤ a.e) (h3 : a.e + bl a.v ≤ gOfE f + 1) : ∃ d k, OfF f p (tiny f p) (remD (tiny f p) a) d k := by
  have ht := tiny_neg hf
  have htd : tiny f p = 1 - gOfE f - (p - 1) := rfl
  obtain ⟨b1, b2, b3, b4⟩ := fmOk_spec hf
  obtain ⟨b5, b6⟩ := gOfE_le b1 b2
  have e1 : (remD (tiny f p) a).natAbs = remN (tiny f p) a := sgn_abs _ _
  by_cases he : 0 ≤ a.e
  · have e2 : remN (tiny f p) a = 0 := by unfold remN; rw [if_pos he]
    exact ⟨0, tiny f p, ⟨Int.le_refl _, by rw [bl_zero]; omega, by rw [bl_zero]; omega, by rw [e1, e2, Nat.zero_mul]⟩⟩
  · have e2 : remN (tiny f p) a = a.v % 2 ^ (-a.e).toNat * 2 ^ (a.e - tiny f p).toNat := by unfold remN; rw [if_neg he]
    have hb := bl_mono (Nat.mod_le a.v (2 ^ (-a.e).toNat))
    exact ⟨a.v % 2 ^ (-a.e).toNat, a.e, ⟨h2, by omega, by omega, by rw [e1, e2]⟩⟩
/-- The rest as a float. -/
def partP (f p : Int) (a : Flt) : Flt := if remD (tiny f p) a = 0 then ⟨0, a.n, 0, 0⟩ else restP (tiny f p) (remD (tiny f p) a)
theorem sv_zero_v {x : Nu} {z : Int} (h : x.sv z = 0) : x.v = 0 := by
  have h1 := sv_nat x z
  rw [h] at h1
  rcases Nat.mul_eq_zero.1 h1.symm with h2 | h2
  · exact h2
  · have := Nat.pow_pos (n := (x.e - z).toNat) (show 0 < 2 by decide); omega
theorem part_round (hf : fmOk f p = true) (h1 : (bl a.v : Int) ≤ p) (h2 : tiny f p ≤ a.e) (h3 : a.e + bl a.v ≤ gOfE f + 1) {y : Nu} (hy : tiny f p ≤ y.e) (hs : y.sv (tiny f p) = remD (tiny f p) a) : (y.round f p 2 a.n).1 = partP f p a := by
  unfold partP
  by_cases h0 : remD (tiny f p) a = 0
  · rw [if_pos h0]
    rw [h0] at hs
    unfold Nu.round
    rw [if_pos (sv_zero_v hs)]
  · rw [if_neg h0]
    obtain ⟨d, k, ho⟩ := rem_of hf h1 h2 h3
    have hv : y.v ≠ 0 := fun h => h0 (by rw [← hs, sv_sgn, h]; simp [sgn])
    have hq : y.round f p 2 a.n = y.round f p 2 false := by unfold Nu.round; rw [if_neg hv, if_neg hv]
    rw [hq, Nu.round_sv hy (b := ⟨decide (remD (tiny f p) a < 0), (remD (tiny f p) a).natAbs, tiny f p⟩) (Int.le_refl _) (by rw [sv_abs, hs]) f p 2 false, round_exact hf (Int.le_refl _) ho]
theorem part_fine (hf : fmOk f p = true) (h1 : (bl a.v : Int) ≤ p) (h2 : tiny f p ≤ a.e) (h3 : a.e + bl a.v ≤ gOfE f + 1) : Fine (partP f p a) ∧ rcanon (partP f p a) = partP f p a ∧ (holdsP f p (partP f p a)).2 = true := by
  unfold partP
  split
  · refine ⟨fine_zero, rfl, ?_⟩
    simp [holdsP, canon]
  · exact ⟨restP_fine hf (Int.le_refl _) (rem_of hf h1 h2 h3), restP_fix _ _, restP_held hf (rem_of hf h1 h2 h3)⟩
theorem part_kn (f p : Int) (a : Flt) : ((partP f p a).k = 0 ∨ (partP f p a).k = 1) ∧ (partP f p a).n = a.n := by
  unfold partP
  split
  · exact ⟨.inl rfl, rfl⟩
  · rename_i h
    refine ⟨restP_kind20 _ _, ?_⟩
    unfold restP
    rw [if_neg h, rcanon_n]
    have h2 : remN (tiny f p) a ≠ 0 := fun h3 => h (by unfold remD; rw [h3]; simp [sgn])
    exact sgn_dec h2
theorem from_kn (a : Flt) : ((fromP (truncZ a) a.n).k = 0 ∨ (fromP (truncZ a) a.n).k = 1) ∧ (fromP (truncZ a) a.n).n = a.n := by
  unfold fromP
  split
  · exact ⟨.inl rfl, rfl⟩
  · rename_i h
    refine ⟨.inr (by rw [rcanon_k]), ?_⟩
    rw [rcanon_n]
    have h2 : truncW a ≠ 0 := fun h3 => h (by unfold truncZ; rw [h3]; simp [sgn])
    exact sgn_dec h2
theorem from_fv (z : Int) (n : Bool) (K : Nat) : fv (-K) (fromP z n) = z * ((2 ^ K : Nat) : Int) := by
  by_cases h : z = 0
  · subst h
    unfold fromP fv
    simp
  · rw [fromP_rest h, restP_fv (by omega)]
    rw [show ((0 : Int) + K).toNat = K by omega]
theorem part_fv {K : Nat} (hK : -(K : Int) ≤ tiny f p) : fv (-K) (partP f p a) = remD (tiny f p) a * ((2 ^ (tiny f p + K).toNat : Nat) : Int) := by
  unfold partP
  split
  · rename_i h
    rw [h]
    simp [fv]
  · exact restP_fv hK
/-- What both parts add up to. -/
theorem parts_fv {K : Nat} (hf : fmOk f p = true) (hk : a.k = 1) (h2 : tiny f p ≤ a.e) (hK : -(K : Int) ≤ tiny f p) : fv (-K) (fromP (truncZ a) a.n) + fv (-K) (partP f p a) = fv (-K) a ∧ (fv (-K) (partP f p a)).natAbs < 2 ^ K := by
  have ht := tiny_neg hf
  have e0 : ((2 ^ K : Nat) : Int) = ((2 ^ (-(tiny f p)).toNat : Nat) : Int) * ((2 ^ (tiny f p + K).toNat : Nat) : Int) := by
    rw [← Int.natCast_mul, ← Nat.pow_add]
    congr 2; omega
  constructor
  · rw [from_fv, part_fv hK, fv_fine hK (fun _ => h2), e0]
    have e1 : fv (tiny f p) a = (Nu.mk a.n a.v a.e).sv (tiny f p) := by unfold fv; rw [if_pos hk]
    rw [e1, trunc_sum ht h2, Int.add_mul, Int.mul_assoc]
  · rw [part_fv hK, Int.natAbs_mul, Int.natAbs_natCast]
    have e1 : (remD (tiny f p) a).natAbs = remN (tiny f p) a := sgn_abs _ _
    rw [e1]
    have h3 := (trunc_rem ht h2).2
    have e2 : 2 ^ K = 2 ^ (-(tiny f p)).toNat * 2 ^ (tiny f p + K).toNat := by rw [← Nat.pow_add]; congr 1; omega
    rw [e2]
    exact Nat.mul_lt_mul_of_pos_right h3 (Nat.pow_pos (by decide))
end
end Go.Proofs.YtokgalpflooegaaGreatDoor
/- The two parts of a float; the law ConvertJoins. No condition. -/
namespace Go.Proofs.YtokgalpflooegaaGreatDoor
set_option linter.unusedVariables false
set_option linter.unusedSimpArgs false
set_option maxHeartbeats 8000000
set_option maxRecDepth 10000
theorem sv_not (n : Bool) (v : Nat) (e z : Int) : (Nu.mk (!n) v e).sv z = -(Nu.mk n v e).sv z := by
  unfold Nu.sv
  cases n <;> simp
theorem from_e (z : Int) (n : Bool) : 0 ≤ (fromP z n).e := by
  unfold fromP
  split
  · exact Int.le_refl _
  · unfold rcanon
    rw [if_pos rfl]
    simp only []
    omega
theorem Parts_does {f p : Int} {x : Fla} (hx : x.Ok) (he : argsC f p f p 2 false x = 0) {a : Flt} (ha : (holdsP f p x.flt).1 = a) (hk : a.k = 1) : Does Tryz.prog Gv 34 [Fm f p, Fl x.k x.n x.e x.m] (.t [(fromP (truncZ a) a.n).pv, (partP f p a).pv, .c (.i .i64 0)]) := by
  have hA := @cargs_does f p f p 2 false x hx
  obtain ⟨h1, h2, h3, h4, h5, h6, h7⟩ := argsC_zero he
  obtain ⟨b1, b2, b3, b4⟩ := fmOk_spec h5
  obtain ⟨b5, b6⟩ := gOfE_le b1 b2
  have hbd := holdsP_bound h5 h7
  have hsb := held_fin20 h7
  have hps := held_pos h7
  rw [if_pos he, he, ha] at hA
  rw [ha] at hbd hsb hps
  have hbd := hbd hk
  have hps := hps hk
  obtain ⟨s1, s2, s3⟩ := hsb hk
  have hok : (Nu.mk a.n a.v a.e).Ok := ⟨hbd.1, by show a.e + bl a.v ≤ 4194304; omega⟩
  have hW := @WholeN_does 2 h2 h3 ⟨a.n, a.v, a.e⟩ hok
  have hwb := wholeP_bl 2 ⟨a.n, a.v, a.e⟩
  simp only [] at hwb
  have hzb : bl (truncZ a).natAbs ≤ 1000000 := by show bl (sgn a.n (wholeP 2 ⟨a.n, a.v, a.e⟩).1).natAbs ≤ _; rw [sgn_abs]; omega
  have hI := @integral_does f p h5 (truncZ a) a.n hzb
  have htr := trunc_in h5 hps s1 s2 s3
  obtain ⟨o1, o2⟩ := integral_ok h5 (truncZ a) a.n
  obtain ⟨wf, wfx⟩ := fromP_fine h5 htr
  have wkn := from_kn a
  have wfv := from_fv (truncZ a) a.n (-(tiny f p)).toNat
  have we0 := from_e (truncZ a) a.n
  have ht := tiny_neg h5
  rw [o1, o2 htr, htr] at hI
  rw [show -(((-(tiny f p)).toNat : Nat) : Int) = tiny f p by omega] at wfv
  have hsum := trunc_sum ht s2
  have hpr := @part_round f p a h5 s1 s2 s3
  have hW : Does Tryz.prog Gv 80 [Nm a.n (nat a.v) a.e, .c (.i .i64 2)] (.t [Iv (truncZ a), .c (.b (wholeP 2 ⟨a.n, a.v, a.e⟩).2)]) := hW
  generalize (wholeP 2 ⟨a.n, a.v, a.e⟩).2 = wx at *
  generalize fromP (truncZ a) a.n = w at *
  generalize truncZ a = z at *
  rw [fv_sv wfx wkn.1] at wfv
  have okw : -4194304 ≤ w.e ∧ w.e + bl w.v ≤ 1148576 := by
    have hv := wf.v
    rcases wkn.1 with h | h
    · unfold rcanon at wfx
      rw [if_neg (by omega)] at wfx
      have e1 := congrArg Flt.e wfx
      simp only [] at e1
      omega
    · have := canon_one wf.can h; omega
  have P := @Plus_does Gv ⟨a.n, a.v, a.e⟩ ⟨!w.n, w.v, w.e⟩ ⟨hok.1, hok.2⟩ ⟨okw.1, by simp only []; omega⟩
  have ps := @Nu.plus_sv (tiny f p) ⟨a.n, a.v, a.e⟩ ⟨!w.n, w.v, w.e⟩ s2 (by simp only []; omega)
  have po := @Nu.plus_ok ⟨a.n, a.v, a.e⟩ ⟨!w.n, w.v, w.e⟩ 1148576 ⟨hok.1, by simp only []; omega⟩ okw
  generalize (Nu.mk a.n a.v a.e).plus ⟨!w.n, w.v, w.e⟩ = y at *
  have hys : y.sv (tiny f p) = remD (tiny f p) a := by
    rw [ps.1, sv_not, wfv, hsum]; omega
  have hF := @NFloat_does f p 2 h5 (by decide) (by decide) y a.n ⟨po.1, by omega⟩
  rw [hpr ps.2 hys] at hF
  generalize partP f p a = u at *
  generalize (y.round f p 2 a.n).2 = fl at *
  have hk3 : ¬ a.k = 3 := by omega
  refine Does.of (nt := 67) Tryz.func34 rfl rfl rfl (by simp) ?_
  simp only [argTm, PV.ext, Ce.ext]
  refine Do.seqk fun _ k1_ => ?_
  refine Do.region [2,3,4,5] true ?_
  simp [go_sem]
  apply k1_; clear k1_
  refine Do.seqk fun _ k2_ => ?_
  refine Do.region [2,3,4,5,6] true ?_
  simp [go_sem]
  repeat (refine And.intro (by first | omega | (intros; omega) | (intros; exact And.intro (by assumption) (by omega)) | grind) ?_)
  refine DoL.call true 104 rfl rfl rfl rfl (by first | exact trivial | omega | (simp; done) | (simp; omega)) (hA) rfl (by first | exact .inl rfl | exact .inr rfl) rfl ?_
  simp [go_sem]
  repeat (refine And.intro (by first | omega | (intros; omega) | (intros; exact And.intro (by assumption) (by omega)) | grind) ?_)
  apply k2_; clear k2_
  refine Do.seqk fun _ k3_ => ?_
  refine Do.region [2,3,4,5,6,7] true ?_
  simp [go_sem]
  repeat (refine And.intro (by first | omega | (intros; omega) | (intros; exact And.intro (by assumption) (by omega)) | grind) ?_)
  apply k3_; clear k3_
  refine Do.seqk fun _ k4_ => ?_
  refine Do.block ?_
  refine Do.seqk fun _ k5_ => ?_
  refine Do.region [2,3,4,5,6,7,20] true ?_
  simp [go_sem]
  apply k5_; clear k5_
  refine Do.cond [2,3,4,5,6,7] rfl (fun g1 => ?_) (fun g1 => ?_) <;> simp [go_sem] at g1 ⊢
  refine Do.seqk fun _ k6_ => ?_
  refine Do.region [2,3,4,5,7,26] true ?_
  simp [go_sem]
  repeat (refine And.intro (by first | omega | (intros; omega) | (intros; exact And.intro (by assumption) (by omega)) | grind) ?_)
  apply k6_; clear k6_
  refine Do.cond [2,3,4,5,7] rfl (fun g2 => ?_) (fun g2 => ?_) <;> simp [go_sem] at g2 ⊢
  · exact absurd g2 hk3
  · refine Do.seqk fun _ k7_ => ?_
    refine Do.region [2,3,4,5,7,32] true ?_
    simp [go_sem]
    repeat (refine And.intro (by first | omega | (intros; omega) | (intros; exact And.intro (by assumption) (by omega)) | grind) ?_)
    apply k7_; clear k7_
    refine Do.cond [2,3,4,5,7] rfl (fun g3 => ?_) (fun g3 => ?_) <;> simp [go_sem] at g3 ⊢
    · exact absurd hk g3
    · refine Do.skip ?_
      simp [go_sem]
      apply k4_; clear k4_
      refine Do.seqk fun _ k8_ => ?_
      refine Do.region [2,3,4,5,8] true ?_
      simp [go_sem]
      repeat (refine And.intro (by first | omega | (intros; omega) | (intros; exact And.intro (by assumption) (by omega)) | grind) ?_)
      refine DoL.call true 902 rfl rfl rfl rfl (by first | exact trivial | omega | (simp; done) | (simp; omega)) (Of_does) rfl (by first | exact .inl rfl | exact .inr rfl) rfl ?_
      simp [go_sem]
      refine DoL.call true 903 rfl rfl rfl rfl (by first | exact trivial | omega | (simp; done) | (simp; omega)) (hW) rfl (by first | exact .inl rfl | exact .inr rfl) rfl ?_
      simp [go_sem]
      repeat (refine And.intro (by first | omega | (intros; omega) | (intros; exact And.intro (by assumption) (by omega)) | grind) ?_)
      apply k8_; clear k8_
      refine Do.seqk fun _ k9_ => ?_
      refine Do.region [2,3,4,5] true ?_
      simp [go_sem]
      repeat (refine And.intro (by first | omega | (intros; omega) | (intros; exact And.intro (by assumption) (by omega)) | grind) ?_)
      refine DoL.call true 1005 rfl rfl rfl rfl (by first | exact trivial | omega | (simp; done) | (simp; omega)) (hI) rfl (by first | exact .inl rfl | exact .inr rfl) rfl ?_
      simp [go_sem]
      repeat (refine And.intro (by first | omega | (intros; omega) | (intros; exact And.intro (by assumption) (by omega)) | grind) ?_)
      apply k9_; clear k9_
      refine Do.seqk fun _ k10_ => ?_
      refine Do.draw [4,5] true (by kernel_rfl) ?_
      simp [go_sem]
      repeat (refine And.intro (by first | omega | (intros; omega) | (intros; exact And.intro (by assumption) (by omega)) | kernel_rfl | grind) ?_)
      refine DoLD.call true 1102 rfl rfl rfl rfl (by first | exact trivial | omega | (simp; done) | (simp; omega)) (Of_does) rfl (by first | exact .inl rfl | exact .inr rfl) rfl ?_
      simp [go_sem]
      repeat (refine And.intro (by first | omega | (intros; omega) | (intros; exact And.intro (by assumption) (by omega)) | kernel_rfl | grind) ?_)
      refine DoLD.call true 1104 rfl rfl rfl rfl (by first | exact trivial | omega | (simp; done) | (simp; omega)) (Of_does) rfl (by first | exact .inl rfl | exact .inr rfl) rfl ?_
      simp [go_sem]
      refine DoLD.call true 1105 rfl rfl rfl rfl (by first | exact trivial | omega | (simp; done) | (simp; omega)) (Minus_does) rfl (by first | exact .inl rfl | exact .inr rfl) rfl ?_
      simp [go_sem]
      refine DoLD.call true 1106 rfl rfl rfl rfl (by first | exact trivial | omega | (simp; done) | (simp; omega)) (P) rfl (by first | exact .inl rfl | exact .inr rfl) rfl ?_
      simp [go_sem]
      repeat (refine And.intro (by first | omega | (intros; omega) | (intros; exact And.intro (by assumption) (by omega)) | kernel_rfl | grind) ?_)
      refine DoLD.call true 1110 rfl rfl rfl rfl (by first | exact trivial | omega | (simp; done) | (simp; omega)) (hF) rfl (by first | exact .inl rfl | exact .inr rfl) rfl ?_
      simp [go_sem]
      repeat (refine And.intro (by first | omega | (intros; omega) | (intros; exact And.intro (by assumption) (by omega)) | kernel_rfl | grind) ?_)
      try (refine And.intro (by kernel_rfl) ?_)
      apply k10_; clear k10_
      refine Do.seqk fun _ k11_ => ?_
      refine Do.draw [4,5,6] true (by kernel_rfl) ?_
      simp [go_sem]
      repeat (refine And.intro (by first | omega | (intros; omega) | (intros; exact And.intro (by assumption) (by omega)) | kernel_rfl | grind) ?_)
      try (refine And.intro (by kernel_rfl) ?_)
      apply k11_; clear k11_
      refine Do.ret ?_
      simp [endQ, rets, ret1, go_sem]
      repeat (refine And.intro (by first | omega | (intros; omega) | (intros; exact And.intro (by assumption) (by omega)) | grind) ?_)
      exact TLe.refl _
theorem QAbs {G : Gl} {K : Nat} {z w : Int} {d : Nat} (h : Dq K z d w) (hK : K ≤ 8000000) (hb : bl w.natAbs ≤ 20000000) : ∃ z' d', Does Tryz.prog G 44 [Qv z d] (.v (Qv z' d')) ∧ Dq K z' d' (w.natAbs : Int) := by
  obtain ⟨s1, s2, s3⟩ := h.small
  have h1 := @IvMake G false z.natAbs (by omega)
  have h2 := @QNorm G (z.natAbs : Int) d (by rw [Int.natAbs_natCast]; omega) (by omega) h.pos
  refine ⟨_, _, ?_, Dq.norm h.abs.eq h.pos⟩
  rw [sgn_false] at h1
  generalize nz (z.natAbs : Int) d = z' at *
  generalize nd (z.natAbs : Int) d = d' at *
  refine Does.of (nt := 11) Tryz.func44 rfl rfl rfl (by simp) ?_
  simp only [argTm, PV.ext, Ce.ext]
  refine Do.seqk fun _ k1_ => ?_
  refine Do.region [1,2] true ?_
  simp [go_sem]
  apply k1_; clear k1_
  refine Do.seqk fun _ k2_ => ?_
  refine Do.draw [2] true (by kernel_rfl) ?_
  simp [go_sem]
  repeat (refine And.intro (by first | omega | (intros; omega) | (intros; exact And.intro (by assumption) (by omega)) | kernel_rfl | grind) ?_)
  refine DoLD.call true 104 rfl rfl rfl rfl (by first | exact trivial | omega | (simp; done) | (simp; omega)) (h1) rfl (by first | exact .inl rfl | exact .inr rfl) rfl ?_
  simp [go_sem]
  repeat (refine And.intro (by first | omega | (intros; omega) | (intros; exact And.intro (by assumption) (by omega)) | kernel_rfl | grind) ?_)
  refine DoLD.call true 108 rfl rfl rfl rfl (by first | exact trivial | omega | (simp; done) | (simp; omega)) (h2) rfl (by first | exact .inl rfl | exact .inr rfl) rfl ?_
  simp [go_sem]
  repeat (refine And.intro (by first | omega | (intros; omega) | (intros; exact And.intro (by assumption) (by omega)) | kernel_rfl | grind) ?_)
  try (refine And.intro (by kernel_rfl) ?_)
  apply k2_; clear k2_
  refine Do.ret ?_
  simp [endQ, rets, ret1, go_sem]
  repeat (refine And.intro (by first | omega | (intros; omega) | (intros; exact And.intro (by assumption) (by omega)) | grind) ?_)
  exact TLe.refl _
theorem Dq.one (K : Nat) : Dq K 1 1 ((2 ^ K : Nat) : Int) := ⟨by rw [Int.one_mul, Int.natCast_one, Int.mul_one], by decide, by decide⟩
theorem Dq.int {K : Nat} {z w : Int} {d : Nat} (h : Dq K z d (w * ((2 ^ K : Nat) : Int))) : d = 1 := by
  have e := h.eq
  have hp : ((2 ^ K : Nat) : Int) ≠ 0 := pow_ne K
  have e2 : z = w * (d : Int) := by
    have : z * ((2 ^ K : Nat) : Int) = w * (d : Int) * ((2 ^ K : Nat) : Int) := by rw [e]; ac_rfl
    exact Int.eq_of_mul_eq_mul_right hp this
  have hc := h.cop
  rw [e2, Int.natAbs_mul, Int.natAbs_natCast] at hc
  have : d ∣ Nat.gcd (w.natAbs * d) d := Nat.dvd_gcd (Nat.dvd_mul_left _ _) (Nat.dvd_refl _)
  rw [hc] at this
  exact Nat.dvd_one.1 this
theorem pow_bits (n : Nat) : bl (((2 ^ n : Nat) : Int)).natAbs ≤ n + 1 := by
  rw [Int.natAbs_natCast, bl_lt]
  exact Nat.pow_lt_pow_right (by decide) (Nat.lt_succ_self n)
end Go.Proofs.YtokgalpflooegaaGreatDoor
/- The law ConvertJoins. No condition. -/
namespace Go.Proofs.YtokgalpflooegaaGreatDoor
set_option linter.unusedVariables false
set_option linter.unusedSimpArgs false
set_option maxHeartbeats 8000000
set_option maxRecDepth 10000
theorem ConvertJoins_does {f p : Int} {x : Fla} (hx : Ws x.m) (ex : I64 x.e) : Does Tryz.prog Gv 9 [Fm f p, Fl x.k x.n x.e x.m] (.v (.c (.b true))) := by
  have hS : Does Tryz.prog Gv 10 [.s false [x.cs]] (.v (.c (.b (shortP [x])))) := Short15_does (l := [x]) (by simp)
  cases hs : shortP [x] with
  | false =>
    rw [hs] at hS
    refine Does.of (nt := 108) Tryz.func9 rfl rfl rfl (by simp) ?_
    simp only [argTm, PV.ext, Ce.ext]
    refine Do.seqk fun _ k1_ => ?_
    refine Do.region [2,3] true ?_
    simp [go_sem]
    apply k1_; clear k1_
    refine Do.seqk fun _ k2_ => ?_
    refine Do.seqk fun _ k3_ => ?_
    refine Do.draw [2,3,28] true (by kernel_rfl) ?_
    simp [go_sem]
    repeat (refine And.intro (by first | omega | (intros; omega) | (intros; exact And.intro (by assumption) (by omega)) | kernel_rfl | grind) ?_)
    refine DoLD.call true 103 rfl rfl rfl rfl (by first | exact trivial | omega | (simp; done) | (simp; omega)) (hS) rfl (by first | exact .inl rfl | exact .inr rfl) rfl ?_
    simp [go_sem]
    repeat (refine And.intro (by first | omega | (intros; omega) | (intros; exact And.intro (by assumption) (by omega)) | kernel_rfl | grind) ?_)
    refine DoLD.gOff true 107 rfl rfl (.v (Fm f p)) rfl rfl ?_
    simp [go_sem]
    repeat (refine And.intro (by first | omega | (intros; omega) | (intros; exact And.intro (by assumption) (by omega)) | kernel_rfl | grind) ?_)
    refine DoLD.gOff true 109 rfl rfl (.v (Fl 0 false 0 [])) rfl rfl ?_
    simp [go_sem]
    refine DoLD.gOff true 109 rfl rfl (.v (.s true [x.cs])) rfl rfl ?_
    simp [go_sem]
    refine DoLD.gOff true 111 rfl rfl (.int .i64 0) rfl rfl ?_
    simp [go_sem]
    repeat (refine And.intro (by first | omega | (intros; omega) | (intros; exact And.intro (by assumption) (by omega)) | kernel_rfl | grind) ?_)
    try (refine And.intro (by kernel_rfl) ?_)
    apply k3_; clear k3_
    refine Do.cond [2,3] rfl (fun h => ?_) (fun h => ?_) <;> simp [go_sem] at h ⊢
    refine Do.seqk fun _ k4_ => ?_
    refine Do.region [4] true ?_
    simp [go_sem]
    refine DoL.call true 201 rfl rfl rfl rfl (by first | exact trivial | omega | (simp; done) | (simp; omega)) (awake20_does) rfl (by first | exact .inl rfl | exact .inr rfl) rfl ?_
    simp [go_sem]
    apply k4_; clear k4_
    refine Do.ret ?_
    simp [endQ, rets, ret1, go_sem]
    repeat (refine And.intro (by first | omega | (intros; omega) | (intros; exact And.intro (by assumption) (by omega)) | grind) ?_)
    exact TLe.refl _
  | true =>
    rw [hs] at hS
    have hsx : x.m.length ≤ 40 := by simpa [shortP] using hs
    have ox : x.Ok := ⟨by simp [Sh]; omega, hx, ex⟩
    have hC : Does Tryz.prog Gv 35 [Fm f p, .s false [x.cs]] (.int .i64 (argsE f p 0 false [x])) := @RCheck_does Gv f p [x] (by simp) (by simp [ox])
    by_cases he : argsE f p 0 false [x] = 0
    · rw [he] at hC
      rw [← argsC_same] at he
      obtain ⟨h1, h2, h3, h4, h5, h6, h7⟩ := argsC_zero he
      have hc2 : argsC f p f p 2 false x = 0 := argsC_ok h1 (by decide) (by decide) h5 h5 h7
      by_cases hk : x.k = 1
      · have hrt := held_rt (f := f) (p := p) (l := [x]) (by simpa [allHold] using h7) (by simp [ox]) (by simpa using h1) x (by simp)
        obtain ⟨b1, b2, b3, b4⟩ := fmOk_spec h5
        obtain ⟨b5, b6⟩ := gOfE_le b1 b2
        have hra := (held_rcanon h7).1
        have hsb := held_fin20 h7
        have hps := held_pos h7
        obtain ⟨a, ha⟩ : ∃ a, (holdsP f p x.flt).1 = a := ⟨_, rfl⟩
        rw [ha] at hra hsb hps
        have hak : a.k = 1 := by rw [← hra, rcanon_k]; exact hk
        have han : a.n = x.n := by rw [← hra, rcanon_n]; rfl
        have hps := hps hak
        obtain ⟨s1, s2, s3⟩ := hsb hak
        have hP := @Parts_does f p x ox hc2 a ha hak
        have htr := trunc_in h5 hps s1 s2 s3
        obtain ⟨wf, wfx⟩ := fromP_fine h5 htr
        obtain ⟨uf, ufx, uh⟩ := part_fine h5 s1 s2 s3
        obtain ⟨wk, wn⟩ := from_kn a
        obtain ⟨uk, un⟩ := part_kn f p a
        have hwh : (holdsP f p (fromP (truncZ a) a.n)).2 = true := by rw [← inP_good wf.can]; exact htr
        have hH1 := @Holds_flt f p _ h5 wf hwh
        have hH2 := @Holds_flt f p _ h5 uf uh
        have htd : tiny f p = 1 - gOfE f - (p - 1) := rfl
        obtain ⟨q1, q2⟩ := @parts_fv f p a 1048576 h5 hak s2 (by omega)
        obtain ⟨zx, dx, rx1, rx2, rx3⟩ := @FRatK Gv x hrt
        have fx : fv (-(1048576 : Nat)) x.flt = fv (-(1048576 : Nat)) a := by
          rw [← hra]; exact (@fv_rcan x.flt (-(1048576 : Nat)) (fun hk => (canon_one hrt.can hk).1)).symm
        rw [fx] at rx2 rx3
        obtain ⟨zw, dw, rw1, rw2, rw3⟩ := @FRatK Gv _ wf.rt
        obtain ⟨zu, du, ru1, ru2, ru3⟩ := @FRatK Gv _ uf.rt
        rw [Flt.fla_flt] at rw2 rw3 ru2 ru3
        have hd1 : dw = 1 := by
          rw [from_fv] at rw2
          exact Dq.int rw2
        subst hd1
        have hcm := @RCmp_does Gv (nat 1) (nat 1) (by rw [nat_one]; decide) (nat_ws _) (by rw [nat_one]; decide) (nat_ws _)
        have hcm : Does Tryz.prog Gv 42 [Wd (nat 1), Wd (nat 1)] (.int .i64 0) := by rw [val_nat] at hcm; exact hcm
        obtain ⟨za, da, ra1, ra2⟩ := @QAbs Gv 1048576 zu _ du ru2 (by decide) (by omega)
        have hbp := pow_bits 1048576
        have hcA := @QCmp Gv _ _ _ _ _ _ _ ra2 (Dq.one 1048576) (by decide) (by rw [Int.natAbs_natCast]; omega) (by omega)
        have hsub : ∀ u P : Nat, u < P → (u : Int) - (P : Int) < 0 := fun u P h => by omega
        have hlt : ((fv (-(1048576 : Nat)) (partP f p a)).natAbs : Int) - ((2 ^ 1048576 : Nat) : Int) < 0 := by
          exact hsub _ _ q2
        rw [Int.sign_eq_neg_one_iff_neg.2 hlt] at hcA
        obtain ⟨z3, d3, A1, A2⟩ := @QAdd Gv _ _ _ _ _ _ _ rw2 ru2 (by decide) (by omega) (by omega)
        rw [q1] at A2
        have hcB := @QCmp Gv _ _ _ _ _ _ _ A2 rx2 (by decide) (by omega) (by omega)
        rw [Int.sub_self] at hcB
        have hcB : Does Tryz.prog Gv 43 [Qv z3 d3, Qv zx dx] (.int .i64 0) := hcB
        have i1 : Does Tryz.prog Gv 41 [.c (.i .i64 1), .c (.i .i64 1)] (.v (Qv 1 1)) := @QFrom Gv 1 (by decide)
        clear q1 q2 rx2 rx3 rw2 rw3 ru2 ru3 ra2 A2 hbp hlt fx
        generalize fromP (truncZ a) a.n = w at *
        generalize partP f p a = u at *
        obtain ⟨wk', wn', we', wv'⟩ := w
        obtain ⟨uk', un', ue', uv'⟩ := u
        simp only [] at wk wn uk un
        rw [han] at wn un
        subst wn
        subst un
        refine Does.of (nt := 108) Tryz.func9 rfl rfl rfl (by simp) ?_
        simp only [argTm, PV.ext, Ce.ext]
        refine Do.seqk fun _ k1_ => ?_
        refine Do.region [2,3] true ?_
        simp [go_sem]
        apply k1_; clear k1_
        refine Do.seqk fun _ k2_ => ?_
        refine Do.seqk fun _ k3_ => ?_
        refine Do.draw [2,3,28] true (by kernel_rfl) ?_
        simp [go_sem]
        repeat (refine And.intro (by first | omega | (intros; omega) | (intros; exact And.intro (by assumption) (by omega)) | kernel_rfl | grind) ?_)
        refine DoLD.call true 103 rfl rfl rfl rfl (by first | exact trivial | omega | (simp; done) | (simp; omega)) (hS) rfl (by first | exact .inl rfl | exact .inr rfl) rfl ?_
        simp [go_sem]
        repeat (refine And.intro (by first | omega | (intros; omega) | (intros; exact And.intro (by assumption) (by omega)) | kernel_rfl | grind) ?_)
        refine DoLD.callg true 107 rfl rfl rfl rfl rfl (by simp [go_sem] <;> omega) (fun _ => Fmt_does) rfl (by first | exact .inl rfl | exact .inr rfl) rfl ?_
        simp [go_sem]
        repeat (refine And.intro (by first | omega | (intros; omega) | (intros; exact And.intro (by assumption) (by omega)) | kernel_rfl | grind) ?_)
        refine DoLD.callg true 109 rfl rfl rfl rfl rfl (by simp [go_sem] <;> omega) (fun _ => Their_does) rfl (by first | exact .inl rfl | exact .inr rfl) rfl ?_
        simp [go_sem]
        refine DoLD.gOn true 109 rfl rfl [19] (by decide) (by simp [go_sem]) rfl (show 0 < 4 ∧ 1 * 4 ≤ 16777216 by decide) (fun _ => rfl) rfl rfl ?_
        simp [go_sem]
        refine DoLD.callg true 111 rfl rfl rfl rfl rfl (by simp [go_sem] <;> omega) (fun _ => hC) rfl (by first | exact .inl rfl | exact .inr rfl) rfl ?_
        simp [go_sem]
        repeat (refine And.intro (by first | omega | (intros; omega) | (intros; exact And.intro (by assumption) (by omega)) | kernel_rfl | grind) ?_)
        try (refine And.intro (by kernel_rfl) ?_)
        apply k3_; clear k3_
        refine Do.cond [2,3] rfl (fun h => ?_) (fun h => ?_) <;> simp [go_sem] at h ⊢
        · exact absurd hk h
        · refine Do.skip ?_
          simp [go_sem]
          apply k2_; clear k2_
          refine Do.seqk fun _ k4_ => ?_
          refine Do.region [2,3,5,6,7] true ?_
          simp [go_sem]
          repeat (refine And.intro (by first | omega | (intros; omega) | (intros; exact And.intro (by assumption) (by omega)) | grind) ?_)
          refine DoL.call true 303 rfl rfl rfl rfl (by first | exact trivial | omega | (simp; done) | (simp; omega)) (hP) rfl (by first | exact .inl rfl | exact .inr rfl) rfl ?_
          simp [go_sem]
          repeat (refine And.intro (by first | omega | (intros; omega) | (intros; exact And.intro (by assumption) (by omega)) | grind) ?_)
          apply k4_; clear k4_
          refine Do.seqk fun _ k5_ => ?_
          refine Do.seqk fun _ k6_ => ?_
          refine Do.region [3,5,6,74] true ?_
          simp [go_sem]
          repeat (refine And.intro (by first | omega | (intros; omega) | (intros; exact And.intro (by assumption) (by omega)) | grind) ?_)
          refine DoL.callg true 406 rfl rfl rfl rfl rfl (by simp [go_sem] <;> omega) (fun _ => hH1) rfl (by first | exact .inl rfl | exact .inr rfl) rfl ?_
          simp [go_sem]
          repeat (refine And.intro (by first | omega | (intros; omega) | (intros; exact And.intro (by assumption) (by omega)) | grind) ?_)
          refine DoL.callg true 412 rfl rfl rfl rfl rfl (by simp [go_sem] <;> omega) (fun _ => hH2) rfl (by first | exact .inl rfl | exact .inr rfl) rfl ?_
          simp [go_sem]
          repeat (refine And.intro (by first | omega | (intros; omega) | (intros; exact And.intro (by assumption) (by omega)) | grind) ?_)
          apply k6_; clear k6_
          refine Do.cond [3,5,6] rfl (fun g => ?_) (fun g => ?_) <;> simp [go_sem] at g ⊢
          · omega
          · refine Do.skip ?_
            simp [go_sem]
            apply k5_; clear k5_
            refine Do.seqk fun _ k7_ => ?_
            refine Do.draw [3,8,9] true (by kernel_rfl) ?_
            simp [go_sem]
            repeat (refine And.intro (by first | omega | (intros; omega) | (intros; exact And.intro (by assumption) (by omega)) | kernel_rfl | grind) ?_)
            refine DoLD.call true 602 rfl rfl rfl rfl (by first | exact trivial | omega | (simp; done) | (simp; omega)) (Their_does) rfl (by first | exact .inl rfl | exact .inr rfl) rfl ?_
            simp [go_sem]
            refine DoLD.call true 603 rfl rfl rfl rfl (by first | exact trivial | omega | (simp; done) | (simp; omega)) (rw1) rfl (by first | exact .inl rfl | exact .inr rfl) rfl ?_
            simp [go_sem]
            repeat (refine And.intro (by first | omega | (intros; omega) | (intros; exact And.intro (by assumption) (by omega)) | kernel_rfl | grind) ?_)
            refine DoLD.call true 605 rfl rfl rfl rfl (by first | exact trivial | omega | (simp; done) | (simp; omega)) (Their_does) rfl (by first | exact .inl rfl | exact .inr rfl) rfl ?_
            simp [go_sem]
            refine DoLD.call true 606 rfl rfl rfl rfl (by first | exact trivial | omega | (simp; done) | (simp; omega)) (ru1) rfl (by first | exact .inl rfl | exact .inr rfl) rfl ?_
            simp [go_sem]
            repeat (refine And.intro (by first | omega | (intros; omega) | (intros; exact And.intro (by assumption) (by omega)) | kernel_rfl | grind) ?_)
            try (refine And.intro (by kernel_rfl) ?_)
            apply k7_; clear k7_
            refine Do.seqk fun _ k8_ => ?_
            refine Do.region [3,8,9,10] true ?_
            simp [go_sem]
            refine DoL.call true 701 rfl rfl rfl rfl (by first | exact trivial | omega | (simp; done) | (simp; omega)) (i1) rfl (by first | exact .inl rfl | exact .inr rfl) rfl ?_
            simp [go_sem]
            repeat (refine And.intro (by first | omega | (intros; omega) | (intros; exact And.intro (by assumption) (by omega)) | grind) ?_)
            apply k8_; clear k8_
            refine Do.seqk fun _ k9_ => ?_
            refine Do.draw [4] true (by kernel_rfl) ?_
            simp [go_sem]
            repeat (refine And.intro (by first | omega | (intros; omega) | (intros; exact And.intro (by assumption) (by omega)) | kernel_rfl | grind) ?_)
            refine DoLD.call true 805 rfl rfl rfl rfl (by first | exact trivial | omega | (simp; done) | (simp; omega)) (hcm) rfl (by first | exact .inl rfl | exact .inr rfl) rfl ?_
            simp [go_sem]
            repeat (refine And.intro (by first | omega | (intros; omega) | (intros; exact And.intro (by assumption) (by omega)) | kernel_rfl | grind) ?_)
            refine DoLD.callg true 809 rfl rfl rfl rfl rfl (by simp [go_sem] <;> omega) (fun _ => ra1) rfl (by first | exact .inl rfl | exact .inr rfl) rfl ?_
            simp [go_sem]
            repeat (refine And.intro (by first | omega | (intros; omega) | (intros; exact And.intro (by assumption) (by omega)) | kernel_rfl | grind) ?_)
            refine DoLD.callg true 811 rfl rfl rfl rfl rfl (by simp [go_sem] <;> omega) (fun _ => hcA) rfl (by first | exact .inl rfl | exact .inr rfl) rfl ?_
            simp [go_sem]
            repeat (refine And.intro (by first | omega | (intros; omega) | (intros; exact And.intro (by assumption) (by omega)) | kernel_rfl | grind) ?_)
            refine DoLD.callg true 817 rfl rfl rfl rfl rfl (by simp [go_sem] <;> omega) (fun _ => A1) rfl (by first | exact .inl rfl | exact .inr rfl) rfl ?_
            simp [go_sem]
            repeat (refine And.intro (by first | omega | (intros; omega) | (intros; exact And.intro (by assumption) (by omega)) | kernel_rfl | grind) ?_)
            refine DoLD.callg true 819 rfl rfl rfl rfl rfl (by simp [go_sem] <;> omega) (fun _ => Their_does) rfl (by first | exact .inl rfl | exact .inr rfl) rfl ?_
            simp [go_sem]
            refine DoLD.callg true 820 rfl rfl rfl rfl rfl (by simp [go_sem] <;> omega) (fun _ => rx1) rfl (by first | exact .inl rfl | exact .inr rfl) rfl ?_
            simp [go_sem]
            refine DoLD.callg true 821 rfl rfl rfl rfl rfl (by simp [go_sem] <;> omega) (fun _ => hcB) rfl (by first | exact .inl rfl | exact .inr rfl) rfl ?_
            simp [go_sem]
            refine DoLD.callg true 825 rfl rfl rfl rfl rfl (by simp [go_sem] <;> omega) (fun _ => awake20_does) rfl (by first | exact .inl rfl | exact .inr rfl) rfl ?_
            simp [go_sem]
            try (refine And.intro (by kernel_rfl) ?_)
            apply k9_; clear k9_
            refine Do.ret ?_
            simp [endQ, rets, ret1, go_sem]
            repeat (refine And.intro (by first | omega | (intros; omega) | (intros; exact And.intro (by assumption) (by omega)) | grind) ?_)
            exact TLe.refl _
      · skip
        refine Does.of (nt := 108) Tryz.func9 rfl rfl rfl (by simp) ?_
        simp only [argTm, PV.ext, Ce.ext]
        refine Do.seqk fun _ k1_ => ?_
        refine Do.region [2,3] true ?_
        simp [go_sem]
        apply k1_; clear k1_
        refine Do.seqk fun _ k2_ => ?_
        refine Do.seqk fun _ k3_ => ?_
        refine Do.draw [2,3,28] true (by kernel_rfl) ?_
        simp [go_sem]
        repeat (refine And.intro (by first | omega | (intros; omega) | (intros; exact And.intro (by assumption) (by omega)) | kernel_rfl | grind) ?_)
        refine DoLD.call true 103 rfl rfl rfl rfl (by first | exact trivial | omega | (simp; done) | (simp; omega)) (hS) rfl (by first | exact .inl rfl | exact .inr rfl) rfl ?_
        simp [go_sem]
        repeat (refine And.intro (by first | omega | (intros; omega) | (intros; exact And.intro (by assumption) (by omega)) | kernel_rfl | grind) ?_)
        refine DoLD.callg true 107 rfl rfl rfl rfl rfl (by simp [go_sem] <;> omega) (fun _ => Fmt_does) rfl (by first | exact .inl rfl | exact .inr rfl) rfl ?_
        simp [go_sem]
        repeat (refine And.intro (by first | omega | (intros; omega) | (intros; exact And.intro (by assumption) (by omega)) | kernel_rfl | grind) ?_)
        refine DoLD.callg true 109 rfl rfl rfl rfl rfl (by simp [go_sem] <;> omega) (fun _ => Their_does) rfl (by first | exact .inl rfl | exact .inr rfl) rfl ?_
        simp [go_sem]
        refine DoLD.gOn true 109 rfl rfl [19] (by decide) (by simp [go_sem]) rfl (show 0 < 4 ∧ 1 * 4 ≤ 16777216 by decide) (fun _ => rfl) rfl rfl ?_
        simp [go_sem]
        refine DoLD.callg true 111 rfl rfl rfl rfl rfl (by simp [go_sem] <;> omega) (fun _ => hC) rfl (by first | exact .inl rfl | exact .inr rfl) rfl ?_
        simp [go_sem]
        repeat (refine And.intro (by first | omega | (intros; omega) | (intros; exact And.intro (by assumption) (by omega)) | kernel_rfl | grind) ?_)
        try (refine And.intro (by kernel_rfl) ?_)
        apply k3_; clear k3_
        refine Do.cond [2,3] rfl (fun h => ?_) (fun h => ?_) <;> simp [go_sem] at h ⊢
        · refine Do.seqk fun _ k4_ => ?_
          refine Do.region [4] true ?_
          simp [go_sem]
          refine DoL.call true 201 rfl rfl rfl rfl (by first | exact trivial | omega | (simp; done) | (simp; omega)) (awake20_does) rfl (by first | exact .inl rfl | exact .inr rfl) rfl ?_
          simp [go_sem]
          apply k4_; clear k4_
          refine Do.ret ?_
          simp [endQ, rets, ret1, go_sem]
          repeat (refine And.intro (by first | omega | (intros; omega) | (intros; exact And.intro (by assumption) (by omega)) | grind) ?_)
          exact TLe.refl _
        · exact absurd h hk
    · generalize argsE f p 0 false [x] = ae at *
      have hz : (ae != 0) = true := by simpa using he
      refine Does.of (nt := 108) Tryz.func9 rfl rfl rfl (by simp) ?_
      simp only [argTm, PV.ext, Ce.ext]
      refine Do.seqk fun _ k1_ => ?_
      refine Do.region [2,3] true ?_
      simp [go_sem]
      apply k1_; clear k1_
      refine Do.seqk fun _ k2_ => ?_
      refine Do.seqk fun _ k3_ => ?_
      refine Do.draw [2,3,28] true (by kernel_rfl) ?_
      simp [go_sem]
      repeat (refine And.intro (by first | omega | (intros; omega) | (intros; exact And.intro (by assumption) (by omega)) | kernel_rfl | grind) ?_)
      refine DoLD.call true 103 rfl rfl rfl rfl (by first | exact trivial | omega | (simp; done) | (simp; omega)) (hS) rfl (by first | exact .inl rfl | exact .inr rfl) rfl ?_
      simp [go_sem]
      repeat (refine And.intro (by first | omega | (intros; omega) | (intros; exact And.intro (by assumption) (by omega)) | kernel_rfl | grind) ?_)
      refine DoLD.callg true 107 rfl rfl rfl rfl rfl (by simp [go_sem] <;> omega) (fun _ => Fmt_does) rfl (by first | exact .inl rfl | exact .inr rfl) rfl ?_
      simp [go_sem]
      repeat (refine And.intro (by first | omega | (intros; omega) | (intros; exact And.intro (by assumption) (by omega)) | kernel_rfl | grind) ?_)
      refine DoLD.callg true 109 rfl rfl rfl rfl rfl (by simp [go_sem] <;> omega) (fun _ => Their_does) rfl (by first | exact .inl rfl | exact .inr rfl) rfl ?_
      simp [go_sem]
      refine DoLD.gOn true 109 rfl rfl [19] (by decide) (by simp [go_sem]) rfl (show 0 < 4 ∧ 1 * 4 ≤ 16777216 by decide) (fun _ => rfl) rfl rfl ?_
      simp [go_sem]
      refine DoLD.callg true 111 rfl rfl rfl rfl rfl (by simp [go_sem] <;> omega) (fun _ => hC) rfl (by first | exact .inl rfl | exact .inr rfl) rfl ?_
      simp [go_sem, hz]
      repeat (refine And.intro (by first | omega | (intros; omega) | (intros; exact And.intro (by assumption) (by omega)) | kernel_rfl | grind) ?_)
      try (refine And.intro (by kernel_rfl) ?_)
      apply k3_; clear k3_
      refine Do.cond [2,3] rfl (fun h => ?_) (fun h => ?_) <;> simp [go_sem, hz] at h ⊢
      refine Do.seqk fun _ k4_ => ?_
      refine Do.region [4] true ?_
      simp [go_sem, hz]
      refine DoL.call true 201 rfl rfl rfl rfl (by first | exact trivial | omega | (simp; done) | (simp; omega)) (awake20_does) rfl (by first | exact .inl rfl | exact .inr rfl) rfl ?_
      simp [go_sem, hz]
      apply k4_; clear k4_
      refine Do.ret ?_
      simp [endQ, rets, ret1, go_sem, hz]
      repeat (refine And.intro (by first | omega | (intros; omega) | (intros; exact And.intro (by assumption) (by omega)) | grind) ?_)
      exact TLe.refl _
end Go.Proofs.YtokgalpflooegaaGreatDoor
/- The row of ConvertJoins. No condition. -/
namespace Go.Proofs.YtokgalpflooegaaGreatDoor
set_option linter.unusedVariables false
set_option linter.unusedSimpArgs false
open Go.ChangeShapes Go.WideShapes Go.ChangeAt Go.RowKit
set_option maxRecDepth 100000
namespace convertJoins
set_option maxRecDepth 100000 in
theorem lifted (os : Os) (started : os.Started) (H : Type) (enc : TypeId × Value → H) :
    ReturnsInHanded {} Tryz.checked os 9 .any (fun w args => (Rows.convertJoinsSpec.pre enc Tryz.prog Tryz.f9 [] false w args ∧ laidMetH Tryz.prog laidL w) ∧ sizedMet enc Tryz.prog Tryz.f9 (OpenSpec.ofChange Rows.convertJoinsSpec) false w args)
      (Rows.convertJoinsSpec.post enc Tryz.prog Tryz.f9 false true false false) := by
  refine returnsInHanded_of_change_and (C := Tryz.checked) (X := fun w _ => laidMetH Tryz.prog laidL w) (fun _ _ _ hh h => h.of_heap hh) own started (by kernel_rfl) Tryz.func9
    (ChangeSpec.witness_shaped (enc := enc) (C := Tryz.checked) (os := os) (X := fun w _ => laidMetH Tryz.prog laidL w) false (World.doorLaid Tryz.prog doorN os) #[.agg #[.int .i64 0, .int .i64 0], .agg #[.int .i64 0, .bool false, .int .i64 0, .slice Option.none 0 0]] doorK rfl (World.shaped_of_RefB (by kernel_rfl) (by kernel_rfl)) (by kernel_rfl) (by kernel_rfl) (by kernel_rfl) (door_met os _)) ?_
  intro W base args ds gs before hval0 hW _ _ hL _
  have hval : ∀ (j : Nat) t v, Tryz.f9.params[j]? = some t → args[j]? = some v → Value.okWide Tryz.prog W .any base t v := hval0
  have hW' := hW
  obtain ⟨p, q, hA0, hV, rfl, hfz, hnd⟩ := hW
  have hA : DataW.TrodAll enc Tryz.prog W 0 (fun _ => true) true Tryz.f9.params.toList args.toList ds p := hA0
  rw [Tryz.params9] at hA hval
  obtain ⟨v0, vs0, d0, ds0, p0, q0, hargs, rfl, rfl, h0, r0⟩ := trodAll_cons hA
  obtain ⟨v1, vs1, d1, ds1, p1, q1, rfl, rfl, rfl, h1, r1⟩ := trodAll_cons r0
  obtain ⟨rfl, rfl, rfl⟩ := trodAll_nil r1
  obtain rfl : args = #[v0, v1] := by cases args; simp_all
  obtain ⟨rfl, rfl⟩ := trodVars_none hV
  have lt0 : ∀ x ∈ p0, x.block < W.heap.size := by obtain ⟨m, hm⟩ := h0; exact DataW.trod_lt m _ _ _ hm
  have lt1 : ∀ x ∈ p1, x.block < W.heap.size := by obtain ⟨m, hm⟩ := h1; exact DataW.trod_lt m _ _ _ hm
  obtain ⟨f, fp, a0⟩ := arg_fm (hval 0 _ v0 rfl rfl) h0
  obtain ⟨x, wx, ex, a1⟩ := arg_fl (hval 1 _ v1 rfl rfl) h1
  clear hA0 hval0
  refine (law_calls (vals := [v0, v1]) (ConvertJoins_does (f := f) (p := fp) wx ex) Tryz.func9 rfl rfl (of_laid hL) (.cons a0 (.cons a1 .nil))).mono fun e W' ⟨he, bel⟩ => ?_
  subst he
  exact ⟨_, rfl, _, _, _, [], _, [], hW', trodAll_mk1 (shut_bool Tryz.underlying4 _), (trodAll_cons_mk (Below.trod laidOut (by kernel_rfl) (of_decide_eq_true (by kernel_rfl)) h0 bel lt0) (trodAll_mk1 (Below.trod laidOut (by kernel_rfl) (of_decide_eq_true (by kernel_rfl)) h1 bel lt1))), rfl, bel.frame _, fun h => by cases h⟩
theorem over : Rows.convertJoinsRow.holds Tryz.pinned (OpenSpec.ofChange Rows.convertJoinsSpec) :=
  OpenClaim.holds_of_wide 9 Tryz.f9 rfl rfl rfl rfl rfl rfl rfl ⟨rfl, rfl, rfl, rfl, rfl⟩ rfl rfl rfl rfl rfl (by kernel_rfl) Tryz.func9 (by kernel_rfl)
    (of_decide_eq_true (by kernel_rfl)) (by unfold Func.isWrapper; first | (rw [if_pos (by decide +kernel)]; kernel_rfl) | (rw [if_neg (by decide +kernel)]; exact ⟨rfl, rfl⟩))
    (fun os started H enc _ => lifted os started H enc)
end convertJoins
end Go.Proofs.YtokgalpflooegaaGreatDoor
/- The law ConvertJoins holds, for every input: the two parts of a Finite float add up to it, the first is an integer, the second is less than 1; both have its sign. Conditions: the two listed package variables hold what the program's text lays (tied by the card). -/
namespace Go.Proofs.YtokgalpflooegaaGreatDoor
set_option linter.unusedVariables false
set_option linter.unusedSimpArgs false
open Go
theorem convertJoins_holds : Rows.ConvertJoinsCardSaid :=
  Claim7.holds_tied_plain_at .later [] [.data, .funcs] true Rows.convertJoinsCard.stood.harness false
    convertJoins.over (fun _ h => by cases h) (by kernel_rfl) (fun _ h => by cases h) convertJoins_row_tie rfl ⟨rfl, rfl⟩ (by kernel_rfl) rfl
    (fun f fn hf hfn => by
      obtain rfl : f = 9 := Option.some.inj ((show Tryz.prog.funcNamed "reckoner/reckonerlaw20.ConvertJoins" = some 9 by kernel_rfl).symm.trans hf) |>.symm
      obtain rfl : fn = Tryz.f9 := (Option.some.inj (Tryz.func9.symm.trans hfn)).symm
      exact ⟨by kernel_rfl, fun j t ht => by
        have hm : t ∈ Tryz.f9.params.toList := by simpa using Array.mem_of_getElem? ht
        have hall : (Tryz.f9.params.toList.all fun u => !Tryz.prog.wantsStandIn u) = true := by kernel_rfl
        exact (show Tryz.prog.wantsStandIn t = false by simpa using List.all_eq_true.1 hall t hm)⟩)
    (by kernel_rfl)
#print axioms convertJoins_holds
end Go.Proofs.YtokgalpflooegaaGreatDoor
