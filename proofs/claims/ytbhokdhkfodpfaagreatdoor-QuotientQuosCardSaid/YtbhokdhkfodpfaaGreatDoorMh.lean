/- The formats of the reference, and its check of arguments. No condition. What the laws' packages compute of floats. No condition. The errors of Pair and Expand. No condition. The program awake: three sums. No condition. Arguments that read as data, as cells. No condition. The order of a sum's terms; a rounded result is canonical. No condition. Digits of sums, differences and products. No condition. The digits of a sum, a difference, and which number is less. No condition. The digits of a product, and of a quotient by one digit. No condition. A quotient by one digit; shifts of digits. No condition. Sums, differences, products of the reference's natural numbers. No condition. The integers of the reference. No condition. -/
import Derived.Test.YtbhokdhkfodpfaaGreatDoorMg
import Derived.Test.YtbhokdhkfodpfaaGreatDoorMd
import Derived.Test.YtbhokdhkfodpfaaGreatDoorMc
import Derived.ChangeSlices
import Derived.ChangeArms
import Derived.WideShapes
import Derived.ProofKit
import Derived.Test.YtbhokdhkfodpfaaGreatDoorMf
import Derived.Test.YtbhokdhkfodpfaaGreatDoorMe
import Derived.KernelRfl
/- The formats of the reference, and its check of arguments. No condition. -/
namespace Go.Proofs.YtbhokdhkfodpfaaGreatDoor
set_option linter.unusedVariables false
set_option linter.unusedSimpArgs false
variable {G : Gl}
set_option maxHeartbeats 2000000
theorem RLeast_does {f p : Int} (hf : fmOk f p = true) : Does Tryz.prog G 86 [Fm f p] (.int .i64 (1 - gOfE f)) := by
  obtain ⟨b1, b2, b3, b4⟩ := fmOk_spec hf
  obtain ⟨b5, b6⟩ := gOfE_le b1 b2
  refine Does.of (nt := 6) Tryz.func86 rfl rfl rfl (by simp) ?_
  simp only [argTm, PV.ext, Ce.ext]
  refine Do.seqk fun _ k1_ => ?_
  refine Do.region [1] true ?_
  simp [go_sem]
  apply k1_; clear k1_
  refine Do.seqk fun _ k2_ => ?_
  refine Do.region [2] true ?_
  simp [go_sem]
  repeat (refine And.intro (by first | omega | (intros; omega) | grind) ?_)
  refine DoL.call true 102 rfl rfl rfl rfl (by first | exact trivial | omega | (simp; done) | (simp; omega)) (RGreatest_does hf) rfl (by first | exact .inl rfl | exact .inr rfl) rfl ?_
  simp [go_sem]
  repeat (refine And.intro (by first | omega | (intros; omega) | grind) ?_)
  apply k2_; clear k2_
  refine Do.ret ?_
  simp [endQ, rets, ret1, go_sem]
  repeat (refine And.intro (by first | omega | (intros; omega) | grind) ?_)
  exact TLe.refl _
theorem RTiny_does {f p : Int} (hf : fmOk f p = true) : Does Tryz.prog G 51 [Fm f p] (.int .i64 (1 - gOfE f - (p - 1))) := by
  obtain ⟨b1, b2, b3, b4⟩ := fmOk_spec hf
  obtain ⟨b5, b6⟩ := gOfE_le b1 b2
  refine Does.of (nt := 9) Tryz.func51 rfl rfl rfl (by simp) ?_
  simp only [argTm, PV.ext, Ce.ext]
  refine Do.seqk fun _ k1_ => ?_
  refine Do.region [1] true ?_
  simp [go_sem]
  apply k1_; clear k1_
  refine Do.seqk fun _ k2_ => ?_
  refine Do.draw [2] true (by kernel_rfl) ?_
  simp [go_sem]
  repeat (refine And.intro (by first | omega | (intros; omega) | kernel_rfl | grind) ?_)
  refine DoLD.call true 102 rfl rfl rfl rfl (by first | exact trivial | omega | (simp; done) | (simp; omega)) (RLeast_does hf) rfl (by first | exact .inl rfl | exact .inr rfl) rfl ?_
  simp [go_sem]
  repeat (refine And.intro (by first | omega | (intros; omega) | kernel_rfl | grind) ?_)
  try (refine And.intro (by kernel_rfl) ?_)
  apply k2_; clear k2_
  refine Do.ret ?_
  simp [endQ, rets, ret1, go_sem]
  repeat (refine And.intro (by first | omega | (intros; omega) | grind) ?_)
  exact TLe.refl _
theorem RRightF_does {f p : Int} : Does Tryz.prog G 58 [Fm f p] (.v (.c (.b (fmOk f p)))) := by
  refine Does.of (nt := 21) Tryz.func58 rfl rfl rfl (by simp) ?_
  simp only [argTm, PV.ext, Ce.ext]
  refine Do.seqk fun _ k1_ => ?_
  refine Do.region [1] true ?_
  simp [go_sem]
  apply k1_; clear k1_
  refine Do.seqk fun _ k2_ => ?_
  refine Do.region [2] true ?_
  simp [go_sem]
  repeat (refine And.intro (by first | omega | (intros; omega) | grind) ?_)
  apply k2_; clear k2_
  refine Do.ret ?_
  simp [endQ, rets, ret1, go_sem]
  repeat (refine And.intro (by first | omega | (intros; omega) | grind) ?_)
  exact ret_b (by simp [fmOk])
theorem NLarge_does {m : List Nat} (hm : Sh m) : Does Tryz.prog G 34 [Wd m] (.v (.c (.b (decide (4096 < (m.length : Int)))))) := by
  refine Does.of (nt := 6) Tryz.func34 rfl rfl rfl (by simp) ?_
  simp only [argTm, PV.ext, Ce.ext]
  refine Do.seqk fun _ k1_ => ?_
  refine Do.region [0] true ?_
  simp [go_sem]
  apply k1_; clear k1_
  refine Do.seqk fun _ k2_ => ?_
  refine Do.region [2] true ?_
  simp [go_sem]
  repeat (refine And.intro (by first | omega | (intros; omega) | grind) ?_)
  apply k2_; clear k2_
  refine Do.ret ?_
  simp [endQ, rets, ret1, go_sem]
  repeat (refine And.intro (by first | omega | (intros; omega) | grind) ?_)
  exact TLe.refl _
theorem FLarge_does {k e : Int} {n : Bool} {m : List Nat} (hm : Sh m) : Does Tryz.prog G 57 [Fl k n e m] (.v (.c (.b (decide (4096 < (m.length : Int)))))) := by
  refine Does.of (nt := 6) Tryz.func57 rfl rfl rfl (by simp) ?_
  simp only [argTm, PV.ext, Ce.ext]
  refine Do.seqk fun _ k1_ => ?_
  refine Do.region [1] true ?_
  simp [go_sem]
  apply k1_; clear k1_
  refine Do.seqk fun _ k2_ => ?_
  refine Do.region [2] true ?_
  simp [go_sem]
  repeat (refine And.intro (by first | omega | (intros; omega) | grind) ?_)
  refine DoL.call true 103 rfl rfl rfl rfl (by first | exact trivial | omega | (simp; done) | (simp; omega)) (NLarge_does hm) rfl (by first | exact .inl rfl | exact .inr rfl) rfl ?_
  simp [go_sem]
  apply k2_; clear k2_
  refine Do.ret ?_
  simp [endQ, rets, ret1, go_sem]
  repeat (refine And.intro (by first | omega | (intros; omega) | grind) ?_)
  exact TLe.refl _
/-- Is a float one of a format, by the reference? -/
def inP (f p : Int) (x : Flt) : Bool :=
  if x.k = 1 then decide ((bl (rcanon x).v : Int) ≤ p) && decide (1 - gOfE f - (p - 1) ≤ (rcanon x).e) && decide ((bl (rcanon x).v : Int) + (rcanon x).e ≤ gOfE f + 1) else true
theorem inP_good {f p : Int} {x : Flt} (h : (canon x).2 = true) : inP f p x = (holdsP f p x).2 := by
  have h1 := rcanon_good h
  have hk : (canon x).1.k = x.k := by rw [← h1]; unfold rcanon; split <;> simp_all
  unfold inP holdsP
  rw [h1]
  by_cases hk1 : x.k = 1
  · rw [if_pos hk1, if_neg (by simp [h, hk, hk1])]
    simp only []
    congr 1
    rw [decide_eq_decide]; omega
  · rw [if_neg hk1, if_pos (by simp [hk, hk1]), h]
theorem holds_good {f p : Int} {x : Flt} : ((canon x).2 && inP f p x) = (holdsP f p x).2 := by
  cases h : (canon x).2 with
  | true => rw [Bool.true_and, inP_good h]
  | false => unfold holdsP; rw [if_pos (.inl h), h]; rfl
theorem rv_le {k e : Int} {n : Bool} {m : List Nat} : (rcanon ⟨k, n, e, val m⟩).v ≤ val m := by
  unfold rcanon; split
  · exact Nat.div_le_self _ _
  · exact Nat.zero_le _
theorem In_does {f p k e : Int} {n : Bool} {m : List Nat} (hf : fmOk f p = true) (hm : m.length ≤ 1073741824) (wm : Ws m) (he : Md e) : Does Tryz.prog G 13 [Fm f p, Fl k n e m] (.v (.c (.b (inP f p ⟨k, n, e, val m⟩)))) := by
  obtain ⟨b1, b2, b3, b4⟩ := fmOk_spec hf
  obtain ⟨b5, b6⟩ := gOfE_le b1 b2
  have hv := bl_le_len wm (Nat.div_le_self (val m) (2 ^ tz (val m)))
  have hl := nat_len_le wm (Nat.div_le_self (val m) (2 ^ tz (val m)))
  have hn := @RLen_does G (nat (val m / 2 ^ tz (val m))) (by omega) (nat_ws _)
  rw [val_nat] at hn
  have ht : tz (val m) < 64 * m.length + 1 := by
    by_cases h : val m = 0
    · rw [h, tz_zero]; omega
    · have := tz_bound wm h; omega
  refine Does.of (nt := 36) Tryz.func13 rfl rfl rfl (by simp) ?_
  simp only [argTm, PV.ext, Ce.ext]
  refine Do.seqk fun _ k1_ => ?_
  refine Do.region [2,3] true ?_
  simp [go_sem]
  apply k1_; clear k1_
  refine Do.seqk fun _ k2_ => ?_
  refine Do.seqk fun _ k3_ => ?_
  refine Do.region [2,3,9] true ?_
  simp [go_sem]
  repeat (refine And.intro (by first | omega | (intros; omega) | grind) ?_)
  apply k3_; clear k3_
  refine Do.cond [2,3] rfl (fun h => ?_) (fun h => ?_) <;> simp [go_sem] at h ⊢
  · refine Do.seqk fun _ k4_ => ?_
    refine Do.region [4] true ?_
    simp [go_sem]
    apply k4_; clear k4_
    refine Do.ret ?_
    simp [endQ, rets, ret1, go_sem]
    repeat (refine And.intro (by first | omega | (intros; omega) | grind) ?_)
    refine ret_b ?_
    rw [inP, if_neg h]
  · refine Do.skip ?_
    simp [go_sem]
    apply k2_; clear k2_
    refine Do.seqk fun _ k5_ => ?_
    refine Do.region [2,5,6] true ?_
    simp [go_sem]
    repeat (refine And.intro (by first | omega | (intros; omega) | grind) ?_)
    refine DoL.call true 302 rfl rfl rfl rfl (by first | exact trivial | omega | (simp; done) | (simp; omega)) (odd_does hm wm he) rfl (by first | exact .inl rfl | exact .inr rfl) rfl ?_
    simp [go_sem]
    apply k5_; clear k5_
    refine Do.seqk fun _ k6_ => ?_
    refine Do.draw [4] true (by kernel_rfl) ?_
    simp [go_sem]
    refine DoLD.call true 402 rfl rfl rfl rfl (by first | exact trivial | omega | (simp; done) | (simp; omega)) (hn) rfl (by first | exact .inl rfl | exact .inr rfl) rfl ?_
    simp [go_sem]
    repeat (refine And.intro (by first | omega | (intros; omega) | kernel_rfl | grind) ?_)
    refine DoLD.callg true 409 rfl rfl rfl rfl rfl (by simp [go_sem] <;> omega) (fun _ => RTiny_does hf) rfl (by first | exact .inl rfl | exact .inr rfl) rfl ?_
    simp [go_sem]
    refine DoLD.callg true 414 rfl rfl rfl rfl rfl (by simp [go_sem] <;> omega) (fun _ => hn) rfl (by first | exact .inl rfl | exact .inr rfl) rfl ?_
    simp [go_sem]
    repeat (refine And.intro (by first | omega | (intros; omega) | kernel_rfl | grind) ?_)
    refine DoLD.callg true 418 rfl rfl rfl rfl rfl (by simp [go_sem] <;> omega) (fun _ => RGreatest_does hf) rfl (by first | exact .inl rfl | exact .inr rfl) rfl ?_
    simp [go_sem]
    repeat (refine And.intro (by first | omega | (intros; omega) | kernel_rfl | grind) ?_)
    try (refine And.intro (by kernel_rfl) ?_)
    apply k6_; clear k6_
    refine Do.ret ?_
    simp [endQ, rets, ret1, go_sem]
    repeat (refine And.intro (by first | omega | (intros; omega) | grind) ?_)
    refine ret_b ?_
    rw [inP, if_pos h, rcanon, if_pos h]
theorem Known_does {r : Int} : Does Tryz.prog G 35 [.c (.i .i64 r)] (.v (.c (.b (decide (0 ≤ r) && decide (r ≤ 4))))) := by
  refine Does.of (nt := 9) Tryz.func35 rfl rfl rfl (by simp) ?_
  simp only [argTm, PV.ext, Ce.ext]
  refine Do.seqk fun _ k1_ => ?_
  refine Do.region [0] true ?_
  simp [go_sem]
  apply k1_; clear k1_
  refine Do.seqk fun _ k2_ => ?_
  refine Do.region [2] true ?_
  simp [go_sem]
  apply k2_; clear k2_
  refine Do.ret ?_
  simp [endQ, rets, ret1, go_sem]
  repeat (refine And.intro (by first | omega | (intros; omega) | grind) ?_)
  exact TLe.refl _
theorem good_md {x : Flt} (h : (canon x).2 = true) : Md x.e := by
  unfold canon at h
  split at h
  · simp at h; omega
  · split at h
    · simp at h; omega
    · split at h
      · split at h
        · cases h
        · constructor <;> omega
      · cases h
theorem RCheck_does {f p : Int} {l : List Fla} (hl : l.length < 1099511627776) (ho : ∀ x ∈ l, x.Ok) : Does Tryz.prog G 21 [Fm f p, Rows l] (.int .i64 (argsE f p 0 false l)) := by
  refine Does.of (nt := 42) Tryz.func21 rfl rfl rfl (by simp) ?_
  simp only [argTm, PV.ext, Ce.ext]
  refine Do.seqk fun _ k1_ => ?_
  refine Do.region [1,2] true ?_
  simp [go_sem]
  apply k1_; clear k1_
  refine Do.seqk fun _ k2_ => ?_
  refine Do.seqk fun _ k3_ => ?_
  refine Do.region [1,2,5] true ?_
  simp [go_sem]
  apply k3_; clear k3_
  refine Do.block ?_
  refine Do.loopF [1,2,5] (fun (i : Nat) => [(5, .int .i64 i)]) (fun (i : Nat) => []) (fun (i : Nat) => i ≤ l.length ∧ ∀ j, j < i → ∀ x, l[j]? = some x → x.m.length ≤ 4096) (fun (i : Nat) => l.length - i) (0) (fun _ => by first | (simp [go_sem, mixS]; done) | (simp [go_sem, mixS]; rfl)) (St.le_of (by first | rfl | simp [keep]) (by first | rfl | simp [keep])) (⟨Nat.zero_le _, fun j hj => absurd hj (Nat.not_lt_zero j)⟩) ?_
  rintro i ⟨hi, hz⟩
  refine Do.seqk fun _ k4_ => ?_
  refine Do.seqk fun _ k5_ => ?_
  refine Do.region [1,2,5,10] true ?_
  simp [go_sem]
  repeat (refine And.intro (by first | omega | (intros; omega) | grind) ?_)
  apply k5_; clear k5_
  refine Do.cond [1,2,5] rfl (fun h2 => ?_) (fun h2 => ?_) <;> simp [go_sem] at h2 ⊢
  · obtain ⟨x, hx⟩ : ∃ x, l[i]? = some x := ⟨_, List.getElem?_eq_getElem h2⟩
    have hxo := ho x (List.mem_of_getElem? hx)
    refine Do.skip ?_
    simp [go_sem]
    apply k4_; clear k4_
    refine Do.seqk fun _ k6_ => ?_
    refine Do.block ?_
    refine Do.seqk fun _ k7_ => ?_
    refine Do.region [1,2,5,17] true ?_
    simp [go_sem, hx]
    repeat (refine And.intro (by first | omega | (intros; omega) | grind) ?_)
    refine DoL.call true 405 rfl rfl rfl rfl (by first | exact trivial | omega | (simp; done) | (simp; omega)) (FLarge_does hxo.sh) rfl (by first | exact .inl rfl | exact .inr rfl) rfl ?_
    simp [go_sem, hx]
    apply k7_; clear k7_
    refine Do.cond [1,2,5] rfl (fun h3 => ?_) (fun h3 => ?_) <;> simp [go_sem, hx] at h3 ⊢
    · refine Do.seqk fun _ k8_ => ?_
      refine Do.region [4] true ?_
      simp [go_sem, hx]
      apply k8_; clear k8_
      refine Do.ret ?_
      simp [endQ, rets, ret1, go_sem, hx]
      repeat (refine And.intro (by first | omega | (intros; omega) | grind) ?_)
      refine ret_i ?_
      rw [argsE, if_pos]
      rw [anyLarge, List.any_eq_true]
      exact ⟨x, List.mem_of_getElem? hx, by simp; omega⟩
    · refine Do.skip ?_
      simp [go_sem]
      apply k6_; clear k6_
      refine Do.region [1,2,5] true ?_
      simp [go_sem, hx]
      repeat (refine And.intro (by first | omega | (intros; omega) | grind) ?_)
      refine ⟨i + 1, St.le_of (by first | rfl | simp [keep]) (by first | rfl | simp [keep]), ⟨by omega, ?_⟩, by simp; omega⟩
      intro j hj y hy
      by_cases e : j = i
      · subst e; rw [hx] at hy; injection hy with hy; subst hy; omega
      · exact hz j (by omega) y hy
  · have e : i = l.length := by omega
    have hal : anyLarge l = false := by
      rw [anyLarge, List.any_eq_false]
      intro x hx
      obtain ⟨j, hj, e2⟩ := List.getElem_of_mem hx
      have := hz j (by omega) x (by rw [List.getElem?_eq_getElem hj, e2])
      simp; omega
    have hsm := notLarge hal
    refine Do.exit ?_
    simp [go_sem]
    apply k2_; clear k2_
    refine Do.seqk fun _ k9_ => ?_
    refine Do.seqk fun _ k10_ => ?_
    refine Do.region [1,2,20] true ?_
    simp [go_sem]
    repeat (refine And.intro (by first | omega | (intros; omega) | grind) ?_)
    refine DoL.call true 602 rfl rfl rfl rfl (by first | exact trivial | omega | (simp; done) | (simp; omega)) (RRightF_does) rfl (by first | exact .inl rfl | exact .inr rfl) rfl ?_
    simp [go_sem]
    repeat (refine And.intro (by first | omega | (intros; omega) | grind) ?_)
    apply k10_; clear k10_
    refine Do.cond [1,2] rfl (fun h3 => ?_) (fun h3 => ?_) <;> simp [go_sem] at h3 ⊢
    · refine Do.seqk fun _ k11_ => ?_
      refine Do.region [4] true ?_
      simp [go_sem]
      apply k11_; clear k11_
      refine Do.ret ?_
      simp [endQ, rets, ret1, go_sem]
      repeat (refine And.intro (by first | omega | (intros; omega) | grind) ?_)
      refine ret_i ?_
      simp [argsE, hal, h3]
    · refine Do.skip ?_
      simp [go_sem]
      apply k9_; clear k9_
      refine Do.seqk fun _ k12_ => ?_
      refine Do.seqk fun _ k13_ => ?_
      refine Do.region [1,2,6] true ?_
      simp [go_sem]
      apply k13_; clear k13_
      refine Do.block ?_
      refine Do.loopF [1,2,6] (fun (i : Nat) => [(6, .int .i64 i)]) (fun (i : Nat) => []) (fun (i : Nat) => i ≤ l.length ∧ ∀ j, j < i → ∀ x, l[j]? = some x → (holdsP f p x.flt).2 = true) (fun (i : Nat) => l.length - i) (0) (fun _ => by first | (simp [go_sem, mixS]; done) | (simp [go_sem, mixS]; rfl)) (St.le_of (by first | rfl | simp [keep]) (by first | rfl | simp [keep])) (⟨Nat.zero_le _, fun j hj => absurd hj (Nat.not_lt_zero j)⟩) ?_
      rintro i ⟨hi, hz⟩
      refine Do.seqk fun _ k14_ => ?_
      refine Do.seqk fun _ k15_ => ?_
      refine Do.region [1,2,6,24] true ?_
      simp [go_sem]
      repeat (refine And.intro (by first | omega | (intros; omega) | grind) ?_)
      apply k15_; clear k15_
      refine Do.cond [1,2,6] rfl (fun h2 => ?_) (fun h2 => ?_) <;> simp [go_sem] at h2 ⊢
      · obtain ⟨x, hx⟩ : ∃ x, l[i]? = some x := ⟨_, List.getElem?_eq_getElem h2⟩
        have hxo := ho x (List.mem_of_getElem? hx)
        have hxl := hsm x (List.mem_of_getElem? hx)
        have hg := @holds_good f p x.flt
        refine Do.skip ?_
        simp [go_sem]
        apply k14_; clear k14_
        refine Do.seqk fun _ k16_ => ?_
        refine Do.block ?_
        refine Do.seqk fun _ k17_ => ?_
        refine Do.draw [1,2,6,41] true (by kernel_rfl) ?_
        simp [go_sem, hx]
        repeat (refine And.intro (by first | omega | (intros; omega) | kernel_rfl | grind) ?_)
        refine DoLD.call true 1105 rfl rfl rfl rfl (by first | exact trivial | omega | (simp; done) | (simp; omega)) (Good_does (by omega) hxo.ws) rfl (by first | exact .inl rfl | exact .inr rfl) rfl ?_
        simp [go_sem, hx]
        repeat (refine And.intro (by first | omega | (intros; omega) | kernel_rfl | grind) ?_)
        refine DoLD.callg true 1113 rfl rfl rfl rfl rfl (by simp [go_sem] <;> omega) (fun h => In_does h3 (by omega) hxo.ws (good_md (by simpa using h))) rfl (by first | exact .inl rfl | exact .inr rfl) rfl ?_
        simp [go_sem, hx]
        repeat (refine And.intro (by first | omega | (intros; omega) | kernel_rfl | grind) ?_)
        try (refine And.intro (by kernel_rfl) ?_)
        apply k17_; clear k17_
        refine Do.cond [1,2,6] rfl (fun h4 => ?_) (fun h4 => ?_) <;> simp [go_sem, hx] at h4 ⊢
        · refine Do.seqk fun _ k18_ => ?_
          refine Do.region [4] true ?_
          simp [go_sem, hx]
          apply k18_; clear k18_
          refine Do.ret ?_
          simp [endQ, rets, ret1, go_sem, hx]
          repeat (refine And.intro (by first | omega | (intros; omega) | grind) ?_)
          refine ret_i ?_
          have hn : (holdsP f p x.flt).2 = false := by
            rw [← hg]
            rcases h4 with h4 | h4
            · rw [show x.flt = ⟨x.k, x.n, x.e, val x.m⟩ from rfl, h4]; rfl
            · rw [show x.flt = ⟨x.k, x.n, x.e, val x.m⟩ from rfl, h4]; simp
          have hall : allHold f p l = false := by
            rw [allHold, List.all_eq_false]
            exact ⟨x, List.mem_of_getElem? hx, by rw [hn]; exact Bool.false_ne_true⟩
          simp [argsE, hal, h3, hall]
        · refine Do.skip ?_
          simp [go_sem]
          apply k16_; clear k16_
          refine Do.region [1,2,6] true ?_
          simp [go_sem, hx]
          repeat (refine And.intro (by first | omega | (intros; omega) | grind) ?_)
          refine ⟨i + 1, St.le_of (by first | rfl | simp [keep]) (by first | rfl | simp [keep]), ⟨by omega, ?_⟩, by simp; omega⟩
          intro j hj y hy
          by_cases e : j = i
          · subst e; rw [hx] at hy; injection hy with hy; subst hy
            rw [← hg, show x.flt = ⟨x.k, x.n, x.e, val x.m⟩ from rfl, h4.1, h4.2]; rfl
          · exact hz j (by omega) y hy
      · refine Do.exit ?_
        simp [go_sem]
        apply k12_; clear k12_
        refine Do.seqk fun _ k19_ => ?_
        refine Do.region [4] true ?_
        simp [go_sem]
        apply k19_; clear k19_
        refine Do.ret ?_
        simp [endQ, rets, ret1, go_sem]
        repeat (refine And.intro (by first | omega | (intros; omega) | grind) ?_)
        refine ret_i ?_
        have e : i = l.length := by omega
        have hall : allHold f p l = true := by
          rw [allHold, List.all_eq_true]
          intro x hx
          obtain ⟨j, hj, e2⟩ := List.getElem_of_mem hx
          exact hz j (by omega) x (by rw [List.getElem?_eq_getElem hj, e2])
        simp [argsE, hal, h3, hall]
end Go.Proofs.YtbhokdhkfodpfaaGreatDoor
/- What the laws' packages compute of floats. No condition. -/
namespace Go.Proofs.YtbhokdhkfodpfaaGreatDoor
set_option linter.unusedVariables false
set_option linter.unusedSimpArgs false
variable {G : Gl}
set_option maxHeartbeats 2000000
def shortP (l : List Fla) : Bool := l.all fun x => decide (x.m.length ≤ 40)
theorem Short15_does {l : List Fla} (hl : l.length < 1099511627776) : Does Tryz.prog G 6 [Rows l] (.v (.c (.b (shortP l)))) := by
  refine Does.of (nt := 17) Tryz.func6 rfl rfl rfl (by simp) ?_
  simp only [argTm, PV.ext, Ce.ext]
  refine Do.seqk fun _ k1_ => ?_
  refine Do.region [0] true ?_
  simp [go_sem]
  apply k1_; clear k1_
  refine Do.seqk fun _ k2_ => ?_
  refine Do.seqk fun _ k3_ => ?_
  refine Do.region [0,3] true ?_
  simp [go_sem]
  apply k3_; clear k3_
  refine Do.block ?_
  refine Do.loopF [0,3] (fun (i : Nat) => [(3, .int .i64 i)]) (fun (i : Nat) => []) (fun (i : Nat) => i ≤ l.length ∧ ∀ j, j < i → ∀ x, l[j]? = some x → x.m.length ≤ 40) (fun (i : Nat) => l.length - i) (0) (fun _ => by first | (simp [go_sem, mixS]; done) | (simp [go_sem, mixS]; rfl)) (St.le_of (by first | rfl | simp [keep]) (by first | rfl | simp [keep])) (⟨Nat.zero_le _, fun j hj => absurd hj (Nat.not_lt_zero j)⟩) ?_
  rintro i ⟨hi, hz⟩
  refine Do.seqk fun _ k4_ => ?_
  refine Do.seqk fun _ k5_ => ?_
  refine Do.region [0,3,7] true ?_
  simp [go_sem]
  repeat (refine And.intro (by first | omega | (intros; omega) | grind) ?_)
  apply k5_; clear k5_
  refine Do.cond [0,3] rfl (fun h2 => ?_) (fun h2 => ?_) <;> simp [go_sem] at h2 ⊢
  · obtain ⟨x, hx⟩ : ∃ x, l[i]? = some x := ⟨_, List.getElem?_eq_getElem h2⟩
    refine Do.skip ?_
    simp [go_sem]
    apply k4_; clear k4_
    refine Do.seqk fun _ k6_ => ?_
    refine Do.block ?_
    refine Do.seqk fun _ k7_ => ?_
    refine Do.region [0,3,16] true ?_
    simp [go_sem, hx]
    repeat (refine And.intro (by first | omega | (intros; omega) | grind) ?_)
    apply k7_; clear k7_
    refine Do.cond [0,3] rfl (fun h3 => ?_) (fun h3 => ?_) <;> simp [go_sem, hx] at h3 ⊢
    · refine Do.seqk fun _ k8_ => ?_
      refine Do.region [2] true ?_
      simp [go_sem, hx]
      apply k8_; clear k8_
      refine Do.ret ?_
      simp [endQ, rets, ret1, go_sem, hx]
      repeat (refine And.intro (by first | omega | (intros; omega) | grind) ?_)
      refine ret_b (Eq.symm ?_)
      rw [shortP, List.all_eq_false]
      exact ⟨x, List.mem_of_getElem? hx, by simp; omega⟩
    · refine Do.skip ?_
      simp [go_sem]
      apply k6_; clear k6_
      refine Do.region [0,3] true ?_
      simp [go_sem, hx]
      repeat (refine And.intro (by first | omega | (intros; omega) | grind) ?_)
      refine ⟨i + 1, St.le_of (by first | rfl | simp [keep]) (by first | rfl | simp [keep]), ⟨by omega, ?_⟩, by simp; omega⟩
      intro j hj y hy
      by_cases e : j = i
      · subst e; rw [hx] at hy; injection hy with hy; subst hy; omega
      · exact hz j (by omega) y hy
  · refine Do.exit ?_
    simp [go_sem]
    apply k2_; clear k2_
    refine Do.seqk fun _ k9_ => ?_
    refine Do.region [2] true ?_
    simp [go_sem]
    apply k9_; clear k9_
    refine Do.ret ?_
    simp [endQ, rets, ret1, go_sem]
    repeat (refine And.intro (by first | omega | (intros; omega) | grind) ?_)
    refine ret_b (Eq.symm ?_)
    rw [shortP, List.all_eq_true]
    intro x hx
    obtain ⟨j, hj, e2⟩ := List.getElem_of_mem hx
    have := hz j (by omega) x (by rw [List.getElem?_eq_getElem hj, e2])
    simpa using this
theorem Their_does {k e : Int} {n : Bool} {m : List Nat} : Does Tryz.prog G 12 [Fl k n e m] (.v (Fl k n e m)) := by
  refine Does.of (nt := 12) Tryz.func12 rfl rfl rfl (by simp) ?_
  simp only [argTm, PV.ext, Ce.ext]
  refine Do.seqk fun _ k1_ => ?_
  refine Do.region [1,2] true ?_
  simp [go_sem]
  apply k1_; clear k1_
  refine Do.seqk fun _ k2_ => ?_
  refine Do.region [2] true ?_
  simp [go_sem]
  repeat (refine And.intro (by first | omega | (intros; omega) | grind) ?_)
  apply k2_; clear k2_
  refine Do.ret ?_
  simp [endQ, rets, ret1, go_sem]
  repeat (refine And.intro (by first | omega | (intros; omega) | grind) ?_)
  exact TLe.refl _
theorem Fmt_does {f p : Int} : Does Tryz.prog G 14 [Fm f p] (.v (Fm f p)) := by
  refine Does.of (nt := 8) Tryz.func14 rfl rfl rfl (by simp) ?_
  simp only [argTm, PV.ext, Ce.ext]
  refine Do.seqk fun _ k1_ => ?_
  refine Do.region [1,2] true ?_
  simp [go_sem]
  apply k1_; clear k1_
  refine Do.seqk fun _ k2_ => ?_
  refine Do.region [2] true ?_
  simp [go_sem]
  repeat (refine And.intro (by first | omega | (intros; omega) | grind) ?_)
  apply k2_; clear k2_
  refine Do.ret ?_
  simp [endQ, rets, ret1, go_sem]
  repeat (refine And.intro (by first | omega | (intros; omega) | grind) ?_)
  exact TLe.refl _
theorem Theirs_does {l : List Fla} (hl : l.length < 1099511627776) : Does Tryz.prog G 36 [Rows l] (.v (.s true (l.map Fla.cs))) := by
  refine Does.of (nt := 20) Tryz.func36 rfl rfl rfl (by simp) ?_
  simp only [argTm, PV.ext, Ce.ext]
  refine Do.seqk fun _ k1_ => ?_
  refine Do.region [0] true ?_
  simp [go_sem]
  apply k1_; clear k1_
  refine Do.seqk fun _ k2_ => ?_
  refine Do.region [0,3] true ?_
  simp [go_sem]
  apply k2_; clear k2_
  refine Do.seqk fun _ k3_ => ?_
  refine Do.seqk fun _ k4_ => ?_
  refine Do.region [0,3,4] true ?_
  simp [go_sem]
  apply k4_; clear k4_
  refine Do.block ?_
  refine Do.own 3 900 4 rfl rfl (by decide) ?_
  simp [go_sem]
  refine Do.loopF [0,3,4] (fun (i : Nat) => [(3, .v (.c (.r 900 i))), (4, .int .i64 i)]) (fun (i : Nat) => [(900, .sr 4 ((l.map Fla.cs).take i))]) (fun (i : Nat) => i ≤ l.length) (fun (i : Nat) => l.length - i) (0) (fun _ => by first | (simp [go_sem, mixS]; done) | (simp [go_sem, mixS]; rfl)) (St.le_of (by first | rfl | simp [keep]) (by first | rfl | simp [keep])) (Nat.zero_le _) ?_
  intro i hi
  refine Do.seqk fun _ k5_ => ?_
  refine Do.seqk fun _ k6_ => ?_
  refine Do.region [0,3,4,8] true ?_
  simp [go_sem]
  repeat (refine And.intro (by first | omega | (intros; omega) | grind) ?_)
  apply k6_; clear k6_
  refine Do.cond [0,3,4] rfl (fun h2 => ?_) (fun h2 => ?_) <;> simp [go_sem] at h2 ⊢
  · obtain ⟨x, hx⟩ : ∃ x, l[i]? = some x := ⟨_, List.getElem?_eq_getElem h2⟩
    have hmin : min i l.length = i := by omega
    refine Do.skip ?_
    simp [go_sem]
    apply k5_; clear k5_
    refine Do.seqk fun _ k7_ => ?_
    refine Do.block ?_
    refine Do.region [0,3,4] true ?_
    simp [go_sem, hx, hmin]
    repeat (refine And.intro (by first | omega | (intros; omega) | grind) ?_)
    refine DoL.call true 506 rfl rfl rfl rfl (by first | exact trivial | omega | (simp; done) | (simp; omega)) (Their_does) rfl (by first | exact .inl rfl | exact .inr rfl) rfl ?_
    simp [go_sem, hx, hmin]
    repeat (refine And.intro (by first | omega | (intros; omega) | grind) ?_)
    apply k7_; clear k7_
    refine Do.region [0,3,4] true ?_
    simp [go_sem, hx, hmin]
    repeat (refine And.intro (by first | omega | (intros; omega) | grind) ?_)
    refine ⟨i + 1, St.le_of rfl (by simp [keep, List.take_add_one, hx]), by omega, by simp; omega⟩
  · refine Do.exit ?_
    simp [go_sem]
    apply k3_; clear k3_
    refine Do.seqk fun _ k8_ => ?_
    refine Do.region [2] true ?_
    simp [go_sem]
    apply k8_; clear k8_
    refine Do.ret ?_
    simp [endQ, rets, ret1, go_sem]
    repeat (refine And.intro (by first | omega | (intros; omega) | grind) ?_)
    have e : i = l.length := by omega
    rw [List.take_of_length_le (by simp; omega)]
    exact TLe.refl _
theorem KArgs_does {f p r : Int} {l : List Fla} (hl : l.length < 1099511627776) (ho : ∀ x ∈ l, x.Ok) : Does Tryz.prog G 7 [Fm f p, .c (.i .i64 r), Rows l] (.int .i64 (argsE f p r false l)) := by
  refine Does.of (nt := 28) Tryz.func7 rfl rfl rfl (by simp) ?_
  simp only [argTm, PV.ext, Ce.ext]
  refine Do.seqk fun _ k1_ => ?_
  refine Do.region [1,2,3] true ?_
  simp [go_sem]
  apply k1_; clear k1_
  refine Do.seqk fun _ k2_ => ?_
  refine Do.seqk fun _ k3_ => ?_
  refine Do.region [1,2,3,7] true ?_
  simp [go_sem]
  apply k3_; clear k3_
  refine Do.block ?_
  refine Do.loopF [1,2,3,7] (fun (i : Nat) => [(7, .int .i64 i)]) (fun (i : Nat) => []) (fun (i : Nat) => i ≤ l.length ∧ ∀ j, j < i → ∀ x, l[j]? = some x → x.m.length ≤ 4096) (fun (i : Nat) => l.length - i) (0) (fun _ => by first | (simp [go_sem, mixS]; done) | (simp [go_sem, mixS]; rfl)) (St.le_of (by first | rfl | simp [keep]) (by first | rfl | simp [keep])) (⟨Nat.zero_le _, fun j hj => absurd hj (Nat.not_lt_zero j)⟩) ?_
  rintro i ⟨hi, hz⟩
  refine Do.seqk fun _ k4_ => ?_
  refine Do.seqk fun _ k5_ => ?_
  refine Do.region [1,2,3,7,11] true ?_
  simp [go_sem]
  repeat (refine And.intro (by first | omega | (intros; omega) | grind) ?_)
  apply k5_; clear k5_
  refine Do.cond [1,2,3,7] rfl (fun h2 => ?_) (fun h2 => ?_) <;> simp [go_sem] at h2 ⊢
  · obtain ⟨x, hx⟩ : ∃ x, l[i]? = some x := ⟨_, List.getElem?_eq_getElem h2⟩
    have hxo := ho x (List.mem_of_getElem? hx)
    refine Do.skip ?_
    simp [go_sem]
    apply k4_; clear k4_
    refine Do.seqk fun _ k6_ => ?_
    refine Do.block ?_
    refine Do.seqk fun _ k7_ => ?_
    refine Do.region [1,2,3,7,19] true ?_
    simp [go_sem, hx]
    repeat (refine And.intro (by first | omega | (intros; omega) | grind) ?_)
    refine DoL.call true 406 rfl rfl rfl rfl (by first | exact trivial | omega | (simp; done) | (simp; omega)) (NLarge_does hxo.sh) rfl (by first | exact .inl rfl | exact .inr rfl) rfl ?_
    simp [go_sem, hx]
    apply k7_; clear k7_
    refine Do.cond [1,2,3,7] rfl (fun h3 => ?_) (fun h3 => ?_) <;> simp [go_sem, hx] at h3 ⊢
    · refine Do.seqk fun _ k8_ => ?_
      refine Do.region [6] true ?_
      simp [go_sem, hx]
      apply k8_; clear k8_
      refine Do.ret ?_
      simp [endQ, rets, ret1, go_sem, hx]
      repeat (refine And.intro (by first | omega | (intros; omega) | grind) ?_)
      refine ret_i ?_
      rw [argsE, if_pos]
      rw [anyLarge, List.any_eq_true]
      exact ⟨x, List.mem_of_getElem? hx, by simp; omega⟩
    · refine Do.skip ?_
      simp [go_sem]
      apply k6_; clear k6_
      refine Do.region [1,2,3,7] true ?_
      simp [go_sem, hx]
      repeat (refine And.intro (by first | omega | (intros; omega) | grind) ?_)
      refine ⟨i + 1, St.le_of (by first | rfl | simp [keep]) (by first | rfl | simp [keep]), ⟨by omega, ?_⟩, by simp; omega⟩
      intro j hj y hy
      by_cases e : j = i
      · subst e; rw [hx] at hy; injection hy with hy; subst hy; omega
      · exact hz j (by omega) y hy
  · have hal : anyLarge l = false := by
      rw [anyLarge, List.any_eq_false]
      intro x hx
      obtain ⟨j, hj, e2⟩ := List.getElem_of_mem hx
      have := hz j (by omega) x (by rw [List.getElem?_eq_getElem hj, e2])
      simp; omega
    refine Do.exit ?_
    simp [go_sem]
    apply k2_; clear k2_
    refine Do.seqk fun _ k9_ => ?_
    refine Do.seqk fun _ k10_ => ?_
    refine Do.region [2,3,22] true ?_
    simp [go_sem]
    refine DoL.call true 602 rfl rfl rfl rfl (by first | exact trivial | omega | (simp; done) | (simp; omega)) (Known_does) rfl (by first | exact .inl rfl | exact .inr rfl) rfl ?_
    simp [go_sem]
    repeat (refine And.intro (by first | omega | (intros; omega) | grind) ?_)
    apply k10_; clear k10_
    refine Do.cond [2,3] rfl (fun h3 => ?_) (fun h3 => ?_) <;> simp [go_sem] at h3 ⊢
    · refine Do.seqk fun _ k11_ => ?_
      refine Do.region [6] true ?_
      simp [go_sem]
      apply k11_; clear k11_
      refine Do.ret ?_
      simp [endQ, rets, ret1, go_sem]
      repeat (refine And.intro (by first | omega | (intros; omega) | grind) ?_)
      refine ret_i ?_
      have : (decide (0 ≤ r) && decide (r ≤ 4) && !false) = false := by simp; omega
      rw [argsE, if_neg (by rw [hal]; exact Bool.false_ne_true), if_pos this]
    · refine Do.skip ?_
      simp [go_sem]
      apply k9_; clear k9_
      refine Do.seqk fun _ k12_ => ?_
      refine Do.region [6] true ?_
      simp [go_sem]
      repeat (refine And.intro (by first | omega | (intros; omega) | grind) ?_)
      refine DoL.call true 802 rfl rfl rfl rfl (by first | exact trivial | omega | (simp; done) | (simp; omega)) (Fmt_does) rfl (by first | exact .inl rfl | exact .inr rfl) rfl ?_
      simp [go_sem]
      refine DoL.call true 804 rfl rfl rfl rfl (by first | exact trivial | omega | (simp; done) | (simp; omega)) (Theirs_does hl) rfl (by first | exact .inl rfl | exact .inr rfl) rfl ?_
      simp [go_sem]
      refine DoL.call true 805 rfl rfl rfl rfl (by first | exact trivial | omega | (simp; done) | (simp; omega)) (RCheck_does hl ho) rfl (by first | exact .inl rfl | exact .inr rfl) rfl ?_
      simp [go_sem]
      apply k12_; clear k12_
      refine Do.ret ?_
      simp [endQ, rets, ret1, go_sem]
      repeat (refine And.intro (by first | omega | (intros; omega) | grind) ?_)
      refine ret_i ?_
      simp [argsE, hal, h3]
end Go.Proofs.YtbhokdhkfodpfaaGreatDoor
/- The errors of Pair and Expand. No condition. -/
namespace Go.Proofs.YtbhokdhkfodpfaaGreatDoor
set_option linter.unusedVariables false
set_option linter.unusedSimpArgs false
set_option maxHeartbeats 2000000
end Go.Proofs.YtbhokdhkfodpfaaGreatDoor
/- The program awake: three sums. No condition. -/
namespace Go.Proofs.YtbhokdhkfodpfaaGreatDoor
set_option linter.unusedVariables false
set_option linter.unusedSimpArgs false
set_option maxHeartbeats 4000000
set_option maxRecDepth 10000
theorem nat_word {n : Nat} (h0 : n ≠ 0) (h : n < 18446744073709551616) : nat n = [n] := by
  unfold nat; rw [dif_neg h0]; rw [show n / 18446744073709551616 = 0 by omega, nat_zero, Nat.mod_eq_of_lt h]
end Go.Proofs.YtbhokdhkfodpfaaGreatDoor
/- Arguments that read as data, as cells. No condition. -/
namespace Go.Proofs.YtbhokdhkfodpfaaGreatDoor
set_option linter.unusedVariables false
set_option linter.unusedSimpArgs false
open Go.RowKit
/-- What one cell of an argument is. -/
inductive CT where
  | i (k : IntKind)
  | n
  | b
  | w
def ctFields (P : Program) (g : TypeId → Option (List CT)) : List Field → Nat → Option (List CT)
  | [], _ => some []
  | fd :: r, off => match g fd.type with
    | some l => if fd.offset = off ∧ P.cellsOf fd.type = l.length then (ctFields P g r (off + l.length)).map (l ++ ·) else none
    | none => none
def ctOf (P : Program) : Nat → TypeId → Option (List CT)
  | 0, _ => none
  | f + 1, t => match P.underlying t with
    | some .bool => some [.b]
    | some (.int .u64) => some [.n]
    | some (.int k) => some [.i k]
    | some (.slice e) => match P.underlying e with
      | some (.int .u64) => if P.cellsOf e = 1 then some [.w] else none
      | _ => none
    | some (.struct fs) => match ctFields P (ctOf P f) fs.toList 0 with
      | some l => if P.cellsOf t = l.length then some l else none
      | none => none
    | _ => none
/-- A cell of such a kind. -/
def CtIs : CT → Ce → Prop
  | .i k, c => ∃ x, c = .i k x ∧ (Lit.int k x).wf = true
  | .n, c => ∃ x, c = .n x ∧ x < 18446744073709551616
  | .b, c => ∃ x, c = .b x
  | .w, c => ∃ l, c = .w false l ∧ Ws l
section
variable {H : Type} {enc : TypeId × Value → H} {P : Program} {W : World} {ok : Nat → Prop} {base : Nat} {sp : Nat → Bool} {held : Bool}
theorem wf_u64 {x : Int} (h : (Lit.int .u64 x).wf = true) : 0 ≤ x ∧ x < 18446744073709551616 := by
  simp only [Lit.wf, Bool.and_eq_true, decide_eq_true_eq] at h
  have h1 : IntKind.min .u64 = 0 := rfl
  have h2 : IntKind.max .u64 = 18446744073709551615 := rfl
  rw [h1, h2] at h; omega
theorem wf_i64 {x : Int} (h : (Lit.int .i64 x).wf = true) : -9223372036854775808 ≤ x ∧ x ≤ 9223372036854775807 := by
  simp only [Lit.wf, Bool.and_eq_true, decide_eq_true_eq] at h
  have h1 : IntKind.min .i64 = -9223372036854775808 := rfl
  have h2 : IntKind.max .i64 = 9223372036854775807 := rfl
  rw [h1, h2] at h; exact h
theorem words_cell (hok : ∀ b, b < W.heap.size → ok b) {t e : TypeId} {fuel : Nat} {cs : List Value} {x : DataW H × List MemPlace} (ht : P.underlying t = some (.slice e)) (he : P.underlying e = some (.int .u64)) (hc : P.cellsOf e = 1)
    (h : DataW.trod enc P W base sp held fuel t cs = some x) : ∃ l, Ws l ∧ ∃ v, cs = [v] ∧ RC (enA W ok) (.w false l) v := by
  rcases ChangeShapes.open_ints ht he hc h with ⟨rfl, _⟩ | ⟨a, len, cap, zs, rfl, _, hl, hm, hz, _, hcell, hwf⟩
  · exact ⟨[], by simp [Ws], _, rfl, none, 0, rfl, Nat.le_refl _, fun i x hi => by simp at hi⟩
  · have hlz : len ≤ zs.length := by rw [hz]; split <;> omega
    have hz0 : ∀ n ∈ zs, 0 ≤ n ∧ n < 18446744073709551616 := fun n hn => wf_u64 (hwf n hn)
    have hll : ((zs.take len).map Int.toNat).length = len := by simp; omega
    refine ⟨(zs.take len).map Int.toNat, fun w hw => ?_, _, rfl, some a, cap, by rw [hll], by rw [hll]; exact hl, fun i x hi => ?_⟩
    · obtain ⟨n, hn, rfl⟩ := List.mem_map.1 hw
      have := hz0 n (List.mem_of_mem_take hn); omega
    · have hil : i < len := by rw [← hll]; exact (List.getElem?_eq_some_iff.1 hi).1
      have hc1 := hcell i (by omega)
      have hx : zs.getD i 0 = x := by
        rw [List.getElem?_map, List.getElem?_take, if_pos hil, List.getElem?_eq_getElem (show i < zs.length by omega)] at hi
        simp only [Option.map_some, Option.some.injEq] at hi
        have := hz0 zs[i] (List.getElem_mem _)
        simp [List.getD, List.getElem?_eq_getElem (show i < zs.length by omega)]; omega
      rw [hx] at hc1
      refine ⟨a, rfl, hok _ ?_, (fun e => by cases e), hc1⟩
      have := World.block_lt_of_cell? W _ hc1
      rwa [add_block] at this
theorem fields_cells (hok : ∀ b, b < W.heap.size → ok b) {g : TypeId → Option (List CT)} {n : Nat} {cs : List Value} (ih : ∀ (t : TypeId) (cts : List CT) (ds : List Value) (y : DataW H × List MemPlace), g t = some cts → DataW.trod enc P W base sp held n t ds = some y → ∃ ces, All2 (RC (enA W ok)) ces ds ∧ All2 CtIs cts ces) :
    ∀ (fs : List Field) (off : Nat) (cts : List CT), ctFields P g fs off = some cts → (∀ fd ∈ fs, ∃ y, DataW.trod enc P W base sp held n fd.type ((cs.drop fd.offset).take (P.cellsOf fd.type)) = some y) → cs.length = off + cts.length → ∃ ces, All2 (RC (enA W ok)) ces (cs.drop off) ∧ All2 CtIs cts ces
  | [], off, cts, h, _, hl => by
    simp only [ctFields, Option.some.injEq] at h; subst h
    rw [List.drop_of_length_le (by simp at hl; omega)]
    exact ⟨[], .nil, .nil⟩
  | fd :: r, off, cts, h, hf, hl => by
    simp only [ctFields] at h
    split at h
    · rename_i l hg
      split at h
      · rename_i ho
        obtain ⟨ho, hc⟩ := ho
        cases hr : ctFields P g r (off + l.length) with
        | none => simp [hr] at h
        | some l2 =>
          simp only [hr, Option.map_some, Option.some.injEq] at h; subst h
          rw [List.length_append] at hl
          obtain ⟨y, hy⟩ := hf fd (by simp)
          rw [ho, hc] at hy
          obtain ⟨c1, a1, m1⟩ := ih _ _ _ _ hg hy
          obtain ⟨c2, a2, m2⟩ := fields_cells hok ih r (off + l.length) l2 hr (fun fd' hf' => hf fd' (List.mem_cons_of_mem _ hf')) (by omega)
          refine ⟨c1 ++ c2, ?_, m1.append m2⟩
          have := a1.append a2
          rwa [show cs.drop (off + l.length) = (cs.drop off).drop l.length by rw [List.drop_drop], List.take_append_drop] at this
      · cases h
    · cases h
theorem trod_cells (hok : ∀ b, b < W.heap.size → ok b) : ∀ (f n : Nat) (t : TypeId) (cts : List CT) (cs : List Value) (x : DataW H × List MemPlace), ctOf P f t = some cts → DataW.trod enc P W base sp held n t cs = some x → ∃ ces, All2 (RC (enA W ok)) ces cs ∧ All2 CtIs cts ces
  | 0, n, t, cts, cs, x, h, _ => by simp [ctOf] at h
  | f + 1, n, t, cts, cs, x, h, hd => by
    simp only [ctOf] at h
    split at h
    · rename_i ht
      injection h with h; subst h
      obtain ⟨b, rfl, _⟩ := DataW.trod_bool ht hd
      exact ⟨[.b b], .cons rfl .nil, .cons ⟨b, rfl⟩ .nil⟩
    · rename_i ht
      injection h with h; subst h
      obtain ⟨n, rfl, _, hw⟩ := DataW.trod_int ht hd
      have := wf_u64 hw
      exact ⟨[.n n.toNat], .cons (by show Value.int .u64 n = .int .u64 (n.toNat : Nat); rw [Int.toNat_of_nonneg this.1]) .nil, .cons ⟨n.toNat, rfl, by omega⟩ .nil⟩
    · rename_i k _ ht
      injection h with h; subst h
      obtain ⟨n, rfl, _, hw⟩ := DataW.trod_int ht hd
      exact ⟨[.i k n], .cons rfl .nil, .cons ⟨n, rfl, hw⟩ .nil⟩
    · rename_i e ht
      split at h
      · rename_i he
        split at h
        · rename_i hc
          injection h with h; subst h
          obtain ⟨l, hw, v, rfl, hv⟩ := words_cell (ok := ok) hok ht he hc hd
          exact ⟨[.w false l], .cons hv .nil, .cons ⟨l, rfl, hw⟩ .nil⟩
        · cases h
      · cases h
    · rename_i fs ht
      split at h
      · rename_i l hl
        split at h
        · rename_i hc
          injection h with h; subst h
          obtain ⟨xs, m, rfl, _, hlen, hxs, hel⟩ := DataW.trod_struct ht hd
          have hff : ∀ fd ∈ fs.toList, ∃ y, DataW.trod enc P W base sp held m fd.type ((cs.drop fd.offset).take (P.cellsOf fd.type)) = some y := fun fd hfd => by
            obtain ⟨i, hi, rfl⟩ := List.getElem_of_mem hfd
            have hi' : i < fs.size := by simpa using hi
            have := hel i fs[i] (by simp [hi'])
            rw [List.getElem?_eq_getElem (by omega)] at this
            exact ⟨_, by simpa using this⟩
          obtain ⟨ces, h1, h2⟩ := fields_cells (cs := cs) hok (fun t cts ds y hg hy => trod_cells hok f m t cts ds y hg hy) fs.toList 0 l hl hff (by omega)
          exact ⟨ces, by simpa using h1, h2⟩
        · cases h
      · cases h
    · cases h
/-- A struct among the arguments. -/
theorem open_struct {b0 : Nat} (hok : ∀ b, b < W.heap.size → ok b) {t : TypeId} {v : Value} {d : DataW H} {ps : List MemPlace} {fs : Array Field} {f : Nat} {cts : List CT} (ht : P.underlying t = some (.struct fs)) (hc : ctOf P f t = some cts) (hval : Value.okWide P W .any b0 t v) (h : DataW.Trod enc P W base sp held t v d ps) : ∃ ces, RP (enA W ok) (.a ces) v ∧ All2 CtIs cts ces := by
  obtain ⟨vs, rfl, _⟩ := WideShapes.okWide_struct ht hval
  obtain ⟨n, hd⟩ := h
  obtain ⟨ces, h1, h2⟩ := trod_cells hok f n t cts _ _ hc hd
  exact ⟨ces, ⟨vs, rfl, h1⟩, h2⟩
end
end Go.Proofs.YtbhokdhkfodpfaaGreatDoor
/- The order of a sum's terms; a rounded result is canonical. No condition. -/
namespace Go.Proofs.YtbhokdhkfodpfaaGreatDoor
set_option linter.unusedVariables false
set_option linter.unusedSimpArgs false
/-- The signed value over a low exponent. -/
def Nu.sv (z : Int) (x : Nu) : Int := if x.n then -((x.v * 2 ^ (x.e - z).toNat : Nat) : Int) else ((x.v * 2 ^ (x.e - z).toNat : Nat) : Int)
theorem pow_split {a b c : Int} (h1 : a ≤ b) (h2 : b ≤ c) : 2 ^ (c - a).toNat = 2 ^ (c - b).toNat * 2 ^ (b - a).toNat := by
  rw [← Nat.pow_add]; congr 1; omega
theorem Nu.plus_sv {z : Int} {a b : Nu} (ha : z ≤ a.e) (hb : z ≤ b.e) : (a.plus b).sv z = a.sv z + b.sv z ∧ z ≤ (a.plus b).e := by
  obtain ⟨n, v, e⟩ := a
  obtain ⟨n', v', e'⟩ := b
  simp only at ha hb
  unfold Nu.plus
  by_cases h0 : v = 0
  · subst h0; simp [Nu.sv, hb]
  · by_cases h1 : v' = 0
    · subst h1; simp [Nu.sv, h0, ha]
    · simp only [h0, h1, if_false]
      generalize hm : (if e' < e then e' else e) = m
      have hm1 : m ≤ e ∧ m ≤ e' ∧ z ≤ m := by split at hm <;> omega
      have e1 : v * 2 ^ (e - z).toNat = v * 2 ^ (e - m).toNat * 2 ^ (m - z).toNat := by rw [pow_split hm1.2.2 hm1.1, Nat.mul_assoc]
      have e2 : v' * 2 ^ (e' - z).toNat = v' * 2 ^ (e' - m).toNat * 2 ^ (m - z).toNat := by rw [pow_split hm1.2.2 hm1.2.1, Nat.mul_assoc]
      simp only [Nu.sv, e1, e2]
      generalize v * 2 ^ (e - m).toNat = x
      generalize v' * 2 ^ (e' - m).toNat = y
      obtain ⟨k, hk⟩ : ∃ k, 2 ^ (m - z).toNat = k := ⟨_, rfl⟩
      simp only [hk]
      have hp : (x + y) * k = x * k + y * k := Nat.add_mul x y k
      have hs : (x - y) * k = x * k - y * k := Nat.sub_mul x y k
      have hs' : (y - x) * k = y * k - x * k := Nat.sub_mul y x k
      have hle := fun h : y ≤ x => Nat.mul_le_mul_right k h
      have hle' := fun h : ¬ y ≤ x => Nat.mul_le_mul_right k (show x ≤ y by omega)
      generalize x * k = X at *
      generalize y * k = Y at *
      by_cases hyx : y ≤ x
      · have := hle hyx
        cases n <;> cases n' <;> simp only [hyx, if_true, if_false, hk, hp, hs, reduceCtorEq, Bool.false_eq_true] <;> omega
      · have := hle' hyx
        cases n <;> cases n' <;> simp only [hyx, if_true, if_false, hk, hp, hs', reduceCtorEq, Bool.false_eq_true] <;> omega
/-- The signed values of the finite terms, added. -/
def svs (z : Int) : List Flt → Int
  | [] => 0
  | x :: l => (if x.k = 1 then (⟨x.n, x.v, x.e⟩ : Nu).sv z else 0) + svs z l
theorem svs_append (z : Int) (l m : List Flt) : svs z (l ++ m) = svs z l + svs z m := by
  induction l with
  | nil => simp [svs]
  | cons x l ih => simp only [List.cons_append, svs, ih]; omega
/-- What holds of a sum of such terms. -/
structure GaIs (z : Int) (l : List Flt) (g : Ga) : Prop where
  sum : g.sum.sv z = svs z l
  low : z ≤ g.sum.e
  nan : g.nan = l.any fun x => x.k == 3
  inv : g.inv = false
  plus : g.plus = l.any fun x => x.k == 2 && !x.n
  minus : g.minus = l.any fun x => x.k == 2 && x.n
  seen : g.seen = l.any fun _ => true
  some_ : g.some_ = l.any fun x => x.k == 1 || (x.k != 2 && x.k != 3 && !x.n)
  other : g.other = l.any fun x => x.k == 1 || (x.k != 2 && x.k != 3 && x.n)
theorem GaIs.put {z : Int} {l : List Flt} {g : Ga} (h : GaIs z l g) {x : Flt} (hx : x.k = 1 → z ≤ x.e) : GaIs z (l ++ [x]) (g.put x.k ⟨x.n, x.v, x.e⟩) := by
  obtain ⟨h1, h2, h3, h4, h5, h6, h7, h8, h9⟩ := h
  obtain ⟨k, n, e, v⟩ := x
  simp only at hx
  unfold Ga.put
  by_cases k3 : k = 3
  · subst k3; constructor <;> simp_all [svs_append, svs]
  · by_cases k2 : k = 2
    · subst k2; constructor <;> simp_all [svs_append, svs]
    · by_cases k1 : k = 1
      · subst k1
        have := Nu.plus_sv h2 (b := ⟨n, v, e⟩) (hx rfl)
        constructor <;> simp_all [svs_append, svs]
      · have b1 : (k == 1) = false := by simp [k1]
        have b2 : (k == 2) = false := by simp [k2]
        have b3 : (k == 3) = false := by simp [k3]
        constructor <;> simp [svs_append, svs, bne, b1, b2, b3, k1, k2, k3, h1, h2, h3, h4, h5, h6, h7, h8, h9]
/-- A result that Same and Is answer of. -/
structure Fine (x : Flt) : Prop where
  can : (canon x).2 = true
  v : bl x.v ≤ 100000
theorem tz_rest {q : Nat} (h : 0 < q) : tz (q / 2 ^ tz q) = 0 := by
  obtain ⟨m, hm⟩ := tz_form h
  have : q / 2 ^ tz q = 2 * m + 1 := by
    conv => lhs; arg 1; rw [hm]
    exact Nat.mul_div_cancel_left _ (Nat.pow_pos (by decide))
  rw [this]
  exact tz_odd1 (by omega)
theorem Fine.same {x : Flt} (h : Fine x) : sameP x x = true := by simp [sameP, h.can]
theorem Fine.sh {x : Flt} (h : Fine x) : Sh (nat x.v) := by
  have := nat_len_bl x.v
  have := h.v
  unfold Sh
  omega
theorem Fine.e {x : Flt} (h : Fine x) : I64 x.e := by
  have := good_md h.can
  simp only [Md, I64] at *
  omega
end Go.Proofs.YtbhokdhkfodpfaaGreatDoor
/- Digits of sums, differences and products. No condition. -/
namespace Go.Proofs.YtbhokdhkfodpfaaGreatDoor
set_option linter.unusedVariables false
set_option linter.unusedSimpArgs false
/-- The i-th digit. -/
def dig (n i : Nat) : Nat := n / 4294967296 ^ i % 4294967296
theorem Hpos (i : Nat) : 0 < 4294967296 ^ i := Nat.pow_pos (by decide)
theorem dig_lt (n i : Nat) : dig n i < 4294967296 := Nat.mod_lt _ (by decide)
theorem dg_dig {k n i : Nat} (h : i < k) : (dg n k)[i]? = some (dig n i) := dg_get h
theorem dg_add (n k : Nat) : dg n (k + 1) = dg n k ++ [dig n k] := dg_snoc k n
theorem dig_none {n k i : Nat} (h : n < 4294967296 ^ k) (hi : k ≤ i) : dig n i = 0 := dg_lt h hi
theorem dig_low {n p x : Nat} (h : x < p) : dig (n % 4294967296 ^ p) x = dig n x := by
  obtain ⟨q, rfl⟩ : ∃ q, p = x + (q + 1) := ⟨p - x - 1, by omega⟩
  unfold dig
  rw [Nat.pow_add, Nat.mod_mul_right_div_self, Nat.pow_succ, Nat.mul_comm _ 4294967296, Nat.mod_mul_right_mod]
theorem dig_high {n p x : Nat} (h : p ≤ x) : dig n x = dig (n / 4294967296 ^ p) (x - p) := by
  unfold dig
  rw [Nat.div_div_eq_div_mul, ← Nat.pow_add, show p + (x - p) = x by omega]
theorem dig_top {n k : Nat} (h : n < 4294967296 ^ (k + 1)) : dig n k = n / 4294967296 ^ k := by
  unfold dig
  rw [Nat.mod_eq_of_lt]
  rw [Nat.div_lt_iff_lt_mul (Hpos k), Nat.mul_comm, ← Nat.pow_succ]; exact h
theorem low_step (n i : Nat) : n % 4294967296 ^ (i + 1) = n % 4294967296 ^ i + dig n i * 4294967296 ^ i := by
  unfold dig
  rw [Nat.pow_succ, Nat.mod_mul, Nat.mul_comm (4294967296 ^ i)]
theorem high_step (n i : Nat) : n / 4294967296 ^ i = n / 4294967296 ^ (i + 1) * 4294967296 + dig n i := by
  unfold dig
  rw [Nat.pow_succ, ← Nat.div_div_eq_div_mul]; omega
theorem dg_ext {l : List Nat} {n k : Nat} (h : l.length = k) (he : ∀ i, i < k → l[i]? = some (dig n i)) : l = dg n k := by
  apply List.ext_getElem?
  intro i
  by_cases hi : i < k
  · rw [he i hi, dg_dig hi]
  · rw [List.getElem?_eq_none (by omega), List.getElem?_eq_none (by rw [dg_len]; omega)]
theorem dg_zero (k : Nat) : List.replicate k 0 = dg 0 k := dg_ext (by simp) fun i hi => by simp [dig, hi]
/-- The carry into digit i of a sum. -/
def cy (a b i : Nat) : Nat := (a % 4294967296 ^ i + b % 4294967296 ^ i) / 4294967296 ^ i
theorem cy_zero (a b : Nat) : cy a b 0 = 0 := by simp [cy, Nat.mod_one]
theorem plus_step (a b i : Nat) : (cy a b i + dig a i + dig b i) % 4294967296 = dig (a + b) i ∧ (cy a b i + dig a i + dig b i) / 4294967296 = cy a b (i + 1) ∧ cy a b i ≤ 1 := by
  have h1 : cy a b (i + 1) = (cy a b i + dig a i + dig b i) / 4294967296 := by
    unfold cy
    rw [low_step, low_step, Nat.pow_succ, ← Nat.div_div_eq_div_mul]
    rw [show a % 4294967296 ^ i + dig a i * 4294967296 ^ i + (b % 4294967296 ^ i + dig b i * 4294967296 ^ i) = a % 4294967296 ^ i + b % 4294967296 ^ i + (dig a i + dig b i) * 4294967296 ^ i by rw [Nat.add_mul]; omega, Nat.add_mul_div_right _ _ (Hpos i), Nat.add_assoc]
  have h2 : dig (a + b) i = (cy a b i + dig a i + dig b i) % 4294967296 := by
    unfold dig cy
    have e : a + b = a % 4294967296 ^ i + b % 4294967296 ^ i + (a / 4294967296 ^ i + b / 4294967296 ^ i) * 4294967296 ^ i := by
      have := Nat.div_add_mod' a (4294967296 ^ i)
      have := Nat.div_add_mod' b (4294967296 ^ i)
      rw [Nat.add_mul]; omega
    conv => lhs; rw [e, Nat.add_mul_div_right _ _ (Hpos i)]
    omega
  refine ⟨h2.symm, h1.symm, ?_⟩
  unfold cy
  have h3 := Nat.mod_lt a (Hpos i)
  have h4 := Nat.mod_lt b (Hpos i)
  exact Nat.le_of_lt_succ ((Nat.div_lt_iff_lt_mul (Hpos i)).2 (by omega))
theorem cy_end {a b m : Nat} (ha : a < 4294967296 ^ m) (hb : b < 4294967296 ^ m) : cy a b m = dig (a + b) m := by
  rw [dig_top (by rw [Nat.pow_succ]; omega)]
  unfold cy
  rw [Nat.mod_eq_of_lt ha, Nat.mod_eq_of_lt hb]
/-- d is a less b; u: above j digits one was borrowed. -/
def Less (a b d j : Nat) (u : Bool) : Prop := d + b = a + (if u then 4294967296 ^ j else 0) ∧ a < 4294967296 ^ j ∧ b < 4294967296 ^ j ∧ d < 4294967296 ^ j
theorem Less.step {a b d j : Nat} {u : Bool} (h : Less a b d j u) {i : Nat} (hi : i < j) : (dig a i + 4294967296 - dig b i - cy d b i) % 4294967296 = dig d i ∧ 1 - (dig a i + 4294967296 - dig b i - cy d b i) / 4294967296 = cy d b (i + 1) := by
  have ⟨h1, h2, h3⟩ := plus_step d b i
  have h4 : dig (d + b) i = dig a i := by
    rw [h.1]
    cases u with
    | false => simp
    | true =>
      simp only [if_true]
      rw [← dig_low hi, Nat.add_mod_right, dig_low hi]
  rw [h4] at h1
  have := dig_lt a i
  have := dig_lt b i
  have := dig_lt d i
  omega
theorem Less.fin {a b d j : Nat} {u : Bool} (h : Less a b d j u) : cy d b j = if u then 1 else 0 := by
  obtain ⟨h1, h2, h3, h4⟩ := h
  unfold cy
  rw [Nat.mod_eq_of_lt h4, Nat.mod_eq_of_lt h3, h1]
  cases u with
  | false => simp [Nat.div_eq_of_lt h2]
  | true => simp only [if_true]; rw [Nat.add_div_right _ (Hpos j), Nat.div_eq_of_lt h2]
theorem less_ex {a b j : Nat} (ha : a < 4294967296 ^ j) (hb : b < 4294967296 ^ j) : ∃ d, Less a b d j (decide (a < b)) ∧ (b ≤ a → d = a - b) := by
  by_cases h : a < b
  · exact ⟨a + 4294967296 ^ j - b, ⟨by simp [h]; omega, ha, hb, by omega⟩, fun h' => by omega⟩
  · exact ⟨a - b, ⟨by simp [h]; omega, ha, hb, by omega⟩, fun _ => rfl⟩
/-- The higher part. -/
def hgh (n i : Nat) : Nat := n / 4294967296 ^ i
theorem hi_step (n i : Nat) : hgh n i = hgh n (i + 1) * 4294967296 + dig n i := high_step n i
theorem hi_zero (n : Nat) : hgh n 0 = n := by simp [hgh]
theorem hi_none {n k : Nat} (h : n < 4294967296 ^ k) {i : Nat} (hi' : k ≤ i) : hgh n i = 0 := Nat.div_eq_of_lt (Nat.lt_of_lt_of_le h (Nat.pow_le_pow_right (by decide) hi'))
theorem dg_set {Q n p v : Nat} (hp : p < n) (hv : v < 4294967296) : ∃ Q', (dg Q n).set p v = dg Q' n ∧ Q' + dig Q p * 4294967296 ^ p = Q + v * 4294967296 ^ p ∧ ∀ m, p < m → Q < 4294967296 ^ m → Q' < 4294967296 ^ m := by
  have e0 : Q = Q % 4294967296 ^ p + (dig Q p + Q / 4294967296 ^ (p + 1) * 4294967296) * 4294967296 ^ p := by
    have h1 := Nat.div_add_mod' Q (4294967296 ^ p)
    rw [high_step, Nat.add_comm (_ * 4294967296)] at h1
    omega
  obtain ⟨Q', hQ⟩ : ∃ Q', Q' = Q % 4294967296 ^ p + (v + Q / 4294967296 ^ (p + 1) * 4294967296) * 4294967296 ^ p := ⟨_, rfl⟩
  have l1 := Nat.mod_lt Q (Hpos p)
  have h1 : Q' % 4294967296 ^ p = Q % 4294967296 ^ p := by rw [hQ, Nat.add_mul_mod_self_right, Nat.mod_mod]
  have h2 : Q' / 4294967296 ^ p = v + Q / 4294967296 ^ (p + 1) * 4294967296 := by rw [hQ, Nat.add_mul_div_right _ _ (Hpos p), Nat.div_eq_of_lt l1, Nat.zero_add]
  have h3 : Q' / 4294967296 ^ (p + 1) = Q / 4294967296 ^ (p + 1) := by
    rw [Nat.pow_succ, ← Nat.div_div_eq_div_mul, h2, Nat.pow_succ]; omega
  refine ⟨Q', dg_ext (by rw [List.length_set, dg_len]) fun i hi => ?_, ?_, fun m hm h => ?_⟩
  · rw [List.getElem?_set]
    by_cases he : p = i
    · subst he
      rw [if_pos rfl, if_pos (by rw [dg_len]; exact hp)]
      unfold dig
      rw [h2]
      congr 1
      omega
    · rw [if_neg he, dg_dig hi]
      congr 1
      rcases Nat.lt_or_gt_of_ne he with h | h
      · rw [dig_high (show p + 1 ≤ i by omega), dig_high (show p + 1 ≤ i by omega), h3]
      · rw [← dig_low h, ← h1, dig_low h]
  · rw [hQ]
    conv => rhs; rw [e0]
    rw [Nat.add_mul, Nat.add_mul]; omega
  · obtain ⟨q, rfl⟩ : ∃ q, m = (p + 1) + q := ⟨m - (p + 1), by omega⟩
    rw [Nat.pow_add, Nat.mul_comm, ← Nat.div_lt_iff_lt_mul (Hpos _)] at h ⊢
    rw [h3]; exact h
end Go.Proofs.YtbhokdhkfodpfaaGreatDoor
/- The digits of a sum, a difference, and which number is less. No condition. -/
namespace Go.Proofs.YtbhokdhkfodpfaaGreatDoor
set_option linter.unusedVariables false
set_option linter.unusedSimpArgs false
variable {G : Gl}
set_option maxHeartbeats 2000000
theorem digit_does {n k i : Nat} (h : n < 4294967296 ^ k) : Does Tryz.prog G 165 [Wd (dg n k), .c (.i .i64 i)] (.v (.c (.n (dig n i)))) := by
  have h0 := @dig_none n k i h
  clear h
  by_cases hi : i < k
  · have hg := @dg_dig k n i hi
    refine Does.of (nt := 13) Tryz.func165 rfl rfl rfl (by simp) ?_
    simp only [argTm, PV.ext, Ce.ext]
    refine Do.seqk fun _ k1_ => ?_
    refine Do.region [0,1] true ?_
    simp [go_sem, hi]
    apply k1_; clear k1_
    refine Do.seqk fun _ k2_ => ?_
    refine Do.seqk fun _ k3_ => ?_
    refine Do.region [0,1,8] true ?_
    simp [go_sem, hi]
    repeat (refine And.intro (by first | omega | (intros; omega) | grind) ?_)
    apply k3_; clear k3_
    refine Do.cond [0,1] rfl (fun h => ?_) (fun h => ?_) <;> simp [go_sem, hi] at h ⊢
    refine Do.seqk fun _ k4_ => ?_
    refine Do.region [4] true ?_
    simp [go_sem, hg]
    repeat (refine And.intro (by first | omega | (intros; omega) | grind) ?_)
    apply k4_; clear k4_
    refine Do.ret ?_
    simp [endQ, rets, ret1, go_sem, hg]
    repeat (refine And.intro (by first | omega | (intros; omega) | grind) ?_)
    exact TLe.refl _
  · rw [h0 (by omega)]
    refine Does.of (nt := 13) Tryz.func165 rfl rfl rfl (by simp) ?_
    simp only [argTm, PV.ext, Ce.ext]
    refine Do.seqk fun _ k1_ => ?_
    refine Do.region [0,1] true ?_
    simp [go_sem, hi]
    apply k1_; clear k1_
    refine Do.seqk fun _ k2_ => ?_
    refine Do.seqk fun _ k3_ => ?_
    refine Do.region [0,1,8] true ?_
    simp [go_sem, hi]
    repeat (refine And.intro (by first | omega | (intros; omega) | grind) ?_)
    apply k3_; clear k3_
    refine Do.cond [0,1] rfl (fun h => ?_) (fun h => ?_) <;> simp [go_sem, hi] at h ⊢
    refine Do.skip ?_
    simp [go_sem]
    apply k2_; clear k2_
    refine Do.seqk fun _ k4_ => ?_
    refine Do.region [4] true ?_
    simp [go_sem, hi]
    apply k4_; clear k4_
    refine Do.ret ?_
    simp [endQ, rets, ret1, go_sem, hi]
    repeat (refine And.intro (by first | omega | (intros; omega) | grind) ?_)
    exact TLe.refl _
theorem Word_does {w : Nat} (h : w < 18446744073709551616) : Does Tryz.prog G 83 [.c (.n w)] (.v (Wn (dg w 2))) := by
  have e : dg w 2 = [w % 4294967296, w / 4294967296] := by simp only [dg]; rw [Nat.mod_eq_of_lt (show w / 4294967296 < 4294967296 by omega)]
  rw [e]
  refine Does.of (nt := 8) Tryz.func83 rfl rfl rfl (by simp) ?_
  simp only [argTm, PV.ext, Ce.ext]
  refine Do.seqk fun _ k1_ => ?_
  refine Do.region [0] true ?_
  simp [go_sem]
  apply k1_; clear k1_
  refine Do.seqk fun _ k2_ => ?_
  refine Do.region [2] true ?_
  simp [go_sem]
  repeat (refine And.intro (by first | omega | (intros; omega) | grind) ?_)
  apply k2_; clear k2_
  refine Do.ret ?_
  simp [endQ, rets, ret1, go_sem]
  repeat (refine And.intro (by first | omega | (intros; omega) | grind) ?_)
  exact TLe.refl _
theorem Plus_r_does {a b j k m : Nat} (ha : a < 4294967296 ^ j) (hb : b < 4294967296 ^ k) (hj : j ≤ 4294967296) (hk : k ≤ 4294967296) (hm : m = if j < k then k else j) : Does Tryz.prog G 157 [Wd (dg a j), Wd (dg b k)] (.v (Wn (dg (a + b) (m + 1)))) := by
  have hda := fun i => @digit_does G a j i ha
  have hdb := fun i => @digit_does G b k i hb
  have hjm : j ≤ m := by split at hm <;> omega
  have hkm : k ≤ m := by split at hm <;> omega
  have hend := @cy_end a b m (Nat.lt_of_lt_of_le ha (Nat.pow_le_pow_right (by decide) hjm)) (Nat.lt_of_lt_of_le hb (Nat.pow_le_pow_right (by decide) hkm))
  clear ha hb
  have hmm : m ≤ 4294967296 := by split at hm <;> omega
  refine Does.of (nt := 40) Tryz.func157 rfl rfl rfl (by simp) ?_
  simp only [argTm, PV.ext, Ce.ext]
  refine Do.seqk fun _ k1_ => ?_
  refine Do.region [0,1] true ?_
  simp [go_sem]
  apply k1_; clear k1_
  refine Do.seqk fun _ k2_ => ?_
  refine Do.region [0,1,5] true ?_
  simp [go_sem]
  apply k2_; clear k2_
  refine Do.seqk fun _ k3_ => ?_
  refine Do.region [0,1,5,6] true ?_
  simp [go_sem]
  apply k3_; clear k3_
  refine Do.seqk fun _ k4_ => ?_
  refine Do.seqk fun _ k5_ => ?_
  refine Do.region [0,1,5,6,7] true ?_
  simp [go_sem]
  apply k5_; clear k5_
  refine Do.block ?_
  refine Do.ownW 5 900 rfl rfl (by decide) ?_
  simp [go_sem]
  refine Do.loopF [0,1,5,6,7] (fun (i : Nat) => [(5, .v (.c (.r 900 i))), (6, .v (.c (.n (cy a b i)))), (7, .int .i64 i)]) (fun (i : Nat) => [(900, .wr (dg (a + b) i))]) (fun (i : Nat) => i ≤ m) (fun (i : Nat) => m - i) (0) (fun _ => by first | (simp [go_sem, mixS]; done) | (simp [go_sem, mixS]; rfl)) (St.le_of (by simp [keep, cy_zero]) (by simp [keep, dg])) (Nat.zero_le _) ?_
  intro i hi
  refine Do.seqk fun _ k6_ => ?_
  refine Do.seqk fun _ k7_ => ?_
  refine Do.region [0,1,5,6,7,17] true ?_
  simp [go_sem]
  repeat (refine And.intro (by first | omega | (intros; omega) | grind) ?_)
  apply k7_; clear k7_
  refine Do.cond [0,1,5,6,7] rfl (fun h => ?_) (fun h => ?_) <;> simp [go_sem] at h ⊢
  · have hs := plus_step a b i
    have l1 := dig_lt a i
    have l2 := dig_lt b i
    refine Do.skip ?_
    simp [go_sem]
    apply k6_; clear k6_
    refine Do.seqk fun _ k8_ => ?_
    refine Do.block ?_
    refine Do.seqk fun _ k9_ => ?_
    refine Do.region [0,1,5,6,7] true ?_
    simp [go_sem]
    refine DoL.call true 604 rfl rfl rfl rfl (by first | exact trivial | omega | (simp; done) | (simp; omega)) (hda i) rfl (by first | exact .inl rfl | exact .inr rfl) rfl ?_
    simp [go_sem]
    repeat (refine And.intro (by first | omega | (intros; omega) | grind) ?_)
    refine DoL.call true 608 rfl rfl rfl rfl (by first | exact trivial | omega | (simp; done) | (simp; omega)) (hdb i) rfl (by first | exact .inl rfl | exact .inr rfl) rfl ?_
    simp [go_sem]
    repeat (refine And.intro (by first | omega | (intros; omega) | grind) ?_)
    apply k9_; clear k9_
    refine Do.seqk fun _ k10_ => ?_
    refine Do.region [0,1,5,6,7] true ?_
    simp [go_sem]
    repeat (refine And.intro (by first | omega | (intros; omega) | grind) ?_)
    apply k10_; clear k10_
    refine Do.region [0,1,5,6,7] true ?_
    simp [go_sem]
    repeat (refine And.intro (by first | omega | (intros; omega) | grind) ?_)
    apply k8_; clear k8_
    refine Do.region [0,1,5,6,7] true ?_
    simp [go_sem]
    repeat (refine And.intro (by first | omega | (intros; omega) | grind) ?_)
    refine ⟨i + 1, St.le_of (by simp [keep, hs.1, hs.2.1]) (by simp [keep, dg_add, hs.1]), by omega, by simp; omega⟩
  · obtain rfl : i = m := by split at hm <;> omega
    refine Do.exit ?_
    simp [go_sem]
    apply k4_; clear k4_
    refine Do.seqk fun _ k11_ => ?_
    refine Do.region [4] true ?_
    simp [go_sem]
    repeat (refine And.intro (by first | omega | (intros; omega) | grind) ?_)
    apply k11_; clear k11_
    refine Do.ret ?_
    simp [endQ, rets, ret1, go_sem]
    repeat (refine And.intro (by first | omega | (intros; omega) | grind) ?_)
    rw [dg_add, ← hend]
    exact TLe.refl _
theorem Minus_r_does {a b d j k : Nat} {u : Bool} (hb : b < 4294967296 ^ k) (h : Less a b d j u) (hj : j ≤ 4294967296) : Does Tryz.prog G 162 [Wd (dg a j), Wd (dg b k)] (.t [Wn (dg d j), .c (.b u)]) := by
  have hdb := fun i => @digit_does G b k i hb
  have hst := fun i (hi : i < j) => h.step hi
  have hfin := h.fin
  clear h hb
  refine Does.of (nt := 38) Tryz.func162 rfl rfl rfl (by simp) ?_
  simp only [argTm, PV.ext, Ce.ext]
  refine Do.seqk fun _ k1_ => ?_
  refine Do.region [0,1] true ?_
  simp [go_sem]
  apply k1_; clear k1_
  refine Do.seqk fun _ k2_ => ?_
  refine Do.region [0,1,6] true ?_
  simp [go_sem]
  apply k2_; clear k2_
  refine Do.seqk fun _ k3_ => ?_
  refine Do.region [0,1,6,7] true ?_
  simp [go_sem]
  apply k3_; clear k3_
  refine Do.seqk fun _ k4_ => ?_
  refine Do.seqk fun _ k5_ => ?_
  refine Do.region [0,1,6,7,8] true ?_
  simp [go_sem]
  apply k5_; clear k5_
  refine Do.block ?_
  refine Do.ownW 6 900 rfl rfl (by decide) ?_
  simp [go_sem]
  refine Do.loopF [0,1,6,7,8] (fun (i : Nat) => [(6, .v (.c (.r 900 i))), (7, .v (.c (.n (cy d b i)))), (8, .int .i64 i)]) (fun (i : Nat) => [(900, .wr (dg d i))]) (fun (i : Nat) => i ≤ j) (fun (i : Nat) => j - i) (0) (fun _ => by first | (simp [go_sem, mixS]; done) | (simp [go_sem, mixS]; rfl)) (St.le_of (by simp [keep, cy_zero]) (by simp [keep, dg])) (Nat.zero_le _) ?_
  intro i hi
  refine Do.seqk fun _ k6_ => ?_
  refine Do.seqk fun _ k7_ => ?_
  refine Do.region [0,1,6,7,8,13] true ?_
  simp [go_sem]
  repeat (refine And.intro (by first | omega | (intros; omega) | grind) ?_)
  apply k7_; clear k7_
  refine Do.cond [0,1,6,7,8] rfl (fun h2 => ?_) (fun h2 => ?_) <;> simp [go_sem] at h2 ⊢
  · have hs := hst i h2
    have l1 := dig_lt a i
    have l2 := dig_lt b i
    have l3 := (plus_step d b i).2.2
    have hg := @dg_dig j a i h2
    have hb1 : cy d b i ≤ dig a i + 4294967296 - dig b i := by omega
    have hb2 : dig a i + 4294967296 - dig b i < M64 := by unfold M64; omega
    refine Do.skip ?_
    simp [go_sem]
    apply k6_; clear k6_
    refine Do.seqk fun _ k8_ => ?_
    refine Do.block ?_
    refine Do.seqk fun _ k9_ => ?_
    refine Do.draw [0,1,6,8,9] true (by kernel_rfl) ?_
    simp [go_sem, hg, hb1, hb2]
    repeat (refine And.intro (by first | omega | (intros; omega) | kernel_rfl | grind) ?_)
    refine DoLD.call true 608 rfl rfl rfl rfl (by first | exact trivial | omega | (simp; done) | (simp; omega)) (hdb i) rfl (by first | exact .inl rfl | exact .inr rfl) rfl ?_
    simp [go_sem, hg, hb1, hb2]
    repeat (refine And.intro (by first | omega | (intros; omega) | kernel_rfl | grind) ?_)
    try (refine And.intro (by kernel_rfl) ?_)
    apply k9_; clear k9_
    refine Do.seqk fun _ k10_ => ?_
    refine Do.region [0,1,6,8,9] true ?_
    simp [go_sem, hg, hb1, hb2]
    repeat (refine And.intro (by first | omega | (intros; omega) | grind) ?_)
    apply k10_; clear k10_
    refine Do.region [0,1,6,7,8] true ?_
    simp [go_sem, hg, hb1, hb2]
    repeat (refine And.intro (by first | omega | (intros; omega) | grind) ?_)
    apply k8_; clear k8_
    refine Do.region [0,1,6,7,8] true ?_
    simp [go_sem, hg, hb1, hb2]
    repeat (refine And.intro (by first | omega | (intros; omega) | grind) ?_)
    refine ⟨i + 1, St.le_of (by simp [keep, hs.2]) (by simp [keep, dg_add, hs.1]), by omega, by simp; omega⟩
  · obtain rfl : i = j := by omega
    refine Do.exit ?_
    simp [go_sem]
    apply k4_; clear k4_
    refine Do.seqk fun _ k11_ => ?_
    refine Do.region [4,5] true ?_
    simp [go_sem]
    apply k11_; clear k11_
    refine Do.ret ?_
    simp [endQ, rets, ret1, go_sem]
    repeat (refine And.intro (by first | omega | (intros; omega) | grind) ?_)
    rw [hfin]
    cases u <;> exact TLe.refl _
end Go.Proofs.YtbhokdhkfodpfaaGreatDoor
/- The digits of a product, and of a quotient by one digit. No condition. -/
namespace Go.Proofs.YtbhokdhkfodpfaaGreatDoor
set_option linter.unusedVariables false
set_option linter.unusedSimpArgs false
variable {G : Gl}
set_option maxHeartbeats 2000000
/-- The product with the digits below i. -/
def tp (a b i : Nat) : Nat := a % 4294967296 ^ i * b
/-- What holds within the row i, at the digit t: the number Q stands in the result, c is carried. -/
def TimesI (a b k i t Q c : Nat) : Prop := Q + c * 4294967296 ^ (i + t) = tp a b i + dig a i * 4294967296 ^ i * (b % 4294967296 ^ t) ∧ Q < 4294967296 ^ (i + k) ∧ c < 4294967296
theorem TimesI.start {a b k i : Nat} (hb : b < 4294967296 ^ k) : TimesI a b k i 0 (tp a b i) 0 := by
  refine ⟨by simp [Nat.mod_one], ?_, by omega⟩
  unfold tp
  rw [Nat.pow_add]
  exact Nat.mul_lt_mul_of_lt_of_le (Nat.mod_lt _ (Hpos i)) (Nat.le_of_lt hb) (Hpos k)
theorem mul_lt_sq {x y : Nat} (hx : x < 4294967296) (hy : y < 4294967296) : x * y ≤ 18446744065119617025 := by
  have := Nat.mul_le_mul (show x ≤ 4294967295 by omega) (show y ≤ 4294967295 by omega)
  omega
theorem TimesI.next {a b j k i t Q c : Nat} (h : TimesI a b k i t Q c) (hi : i < j) (ht : t < k) : c + dig Q (i + t) + dig a i * dig b t < 18446744073709551616 ∧ ∃ Q', (dg Q (j + k)).set (i + t) ((c + dig Q (i + t) + dig a i * dig b t) % 4294967296) = dg Q' (j + k) ∧ TimesI a b k i (t + 1) Q' ((c + dig Q (i + t) + dig a i * dig b t) / 4294967296) := by
  obtain ⟨h1, h2, h3⟩ := h
  have l1 := dig_lt Q (i + t)
  have l2 := mul_lt_sq (dig_lt a i) (dig_lt b t)
  refine ⟨by omega, ?_⟩
  obtain ⟨Q', e1, e2, e3⟩ := @dg_set Q (j + k) (i + t) ((c + dig Q (i + t) + dig a i * dig b t) % 4294967296) (by omega) (Nat.mod_lt _ (by decide))
  refine ⟨Q', e1, ?_, e3 _ (by omega) h2, by omega⟩
  have hs := Nat.div_add_mod' (c + dig Q (i + t) + dig a i * dig b t) 4294967296
  have hm : (c + dig Q (i + t) + dig a i * dig b t) / 4294967296 * 4294967296 ^ (i + (t + 1)) = (c + dig Q (i + t) + dig a i * dig b t) / 4294967296 * 4294967296 * 4294967296 ^ (i + t) := by
    rw [show i + (t + 1) = i + t + 1 by omega, Nat.pow_succ, Nat.mul_comm (4294967296 ^ (i + t)), Nat.mul_assoc]
  rw [hm, low_step b t, Nat.mul_add, ← Nat.add_assoc, ← h1]
  have hd : dig a i * 4294967296 ^ i * (dig b t * 4294967296 ^ t) = dig a i * dig b t * 4294967296 ^ (i + t) := by
    rw [Nat.pow_add]; ac_rfl
  rw [hd]
  have hk : ∀ x y z : Nat, x / 4294967296 * 4294967296 + x % 4294967296 = x := fun x _ _ => Nat.div_add_mod' x _
  generalize 4294967296 ^ (i + t) = M at *
  generalize dig a i * dig b t = p at *
  generalize dig Q (i + t) = q at *
  have e4 : (c + q + p) / 4294967296 * 4294967296 * M + (c + q + p) % 4294967296 * M = (c + q + p) * M := by rw [← Nat.add_mul, hk _ 0 0]
  rw [Nat.add_mul, Nat.add_mul] at e4
  omega
theorem TimesI.out {a b j k i Q c : Nat} (h : TimesI a b k i k Q c) (hb : b < 4294967296 ^ k) (hi : i < j) : (dg Q (j + k)).set (i + k) c = dg (tp a b (i + 1)) (j + k) := by
  obtain ⟨h1, h2, h3⟩ := h
  obtain ⟨Q', e1, e2, _⟩ := @dg_set Q (j + k) (i + k) c (by omega) h3
  rw [dig_none h2 (Nat.le_refl _), Nat.zero_mul, Nat.add_zero, h1, Nat.mod_eq_of_lt hb] at e2
  rw [e1, e2]
  unfold tp
  rw [low_step a i, Nat.add_mul]
theorem tp_zero (a b : Nat) : tp a b 0 = 0 := by simp [tp, Nat.mod_one]
theorem tp_end {a b j : Nat} (ha : a < 4294967296 ^ j) : tp a b j = a * b := by rw [tp, Nat.mod_eq_of_lt ha]
theorem Times_does {a b j k : Nat} (ha : a < 4294967296 ^ j) (hb : b < 4294967296 ^ k) (hj : j ≤ 4294967296) (hk : k ≤ 4294967296) : Does Tryz.prog G 77 [Wd (dg a j), Wd (dg b k)] (.v (Wn (dg (a * b) (j + k)))) := by
  have hend := @tp_end a b j ha
  have hst := fun i => @TimesI.start a b k i hb
  have hout := fun i Q c (h : TimesI a b k i k Q c) hi => @TimesI.out a b j k i Q c h hb hi
  clear ha hb
  refine Does.of (nt := 62) Tryz.func77 rfl rfl rfl (by simp) ?_
  simp only [argTm, PV.ext, Ce.ext]
  refine Do.seqk fun _ k1_ => ?_
  refine Do.region [0,1] true ?_
  simp [go_sem, -List.reduceReplicate]
  apply k1_; clear k1_
  refine Do.seqk fun _ k2_ => ?_
  refine Do.region [0,1,5] true ?_
  simp [go_sem, -List.reduceReplicate]
  repeat (refine And.intro (by first | omega | (intros; omega) | grind) ?_)
  apply k2_; clear k2_
  refine Do.seqk fun _ k3_ => ?_
  refine Do.seqk fun _ k4_ => ?_
  refine Do.region [0,1,5,6] true ?_
  simp [go_sem, -List.reduceReplicate]
  apply k4_; clear k4_
  refine Do.block ?_
  rw [show ((j : Int) + k).toNat = j + k by omega, dg_zero]
  refine Do.loopF [0,1,5,6] (fun (i : Nat) => [(6, .int .i64 i)]) (fun (i : Nat) => [(105, .wr (dg (tp a b i) (j + k)))]) (fun (i : Nat) => i ≤ j) (fun (i : Nat) => j - i) (0) (fun _ => by first | (simp [go_sem, mixS]; done) | (simp [go_sem, mixS]; rfl)) (St.le_of (by simp [keep, tp_zero]) (by simp [keep, tp_zero])) (Nat.zero_le _) ?_
  intro i hi
  refine Do.seqk fun _ k5_ => ?_
  refine Do.seqk fun _ k6_ => ?_
  refine Do.region [0,1,5,6,18] true ?_
  simp [go_sem, -List.reduceReplicate]
  repeat (refine And.intro (by first | omega | (intros; omega) | grind) ?_)
  apply k6_; clear k6_
  refine Do.cond [0,1,5,6] rfl (fun h => ?_) (fun h => ?_) <;> simp [go_sem, -List.reduceReplicate] at h ⊢
  · refine Do.skip ?_
    simp [go_sem]
    apply k5_; clear k5_
    refine Do.seqk fun _ k7_ => ?_
    refine Do.block ?_
    refine Do.seqk fun _ k8_ => ?_
    refine Do.region [0,1,5,6,7] true ?_
    simp [go_sem, -List.reduceReplicate]
    apply k8_; clear k8_
    refine Do.seqk fun _ k9_ => ?_
    refine Do.seqk fun _ k10_ => ?_
    refine Do.region [0,1,5,6,7,8] true ?_
    simp [go_sem, -List.reduceReplicate]
    apply k10_; clear k10_
    refine Do.block ?_
    refine Do.loopF [0,1,5,6,7,8] (fun (s : Nat × Nat × Nat) => [(7, .v (.c (.n s.2.2))), (8, .int .i64 s.1)]) (fun (s : Nat × Nat × Nat) => [(105, .wr (dg s.2.1 (j + k)))]) (fun (s : Nat × Nat × Nat) => s.1 ≤ k ∧ TimesI a b k i s.1 s.2.1 s.2.2) (fun (s : Nat × Nat × Nat) => k - s.1) ((0, tp a b i, 0)) (fun _ => by first | (simp [go_sem, mixS]; done) | (simp [go_sem, mixS]; rfl)) (St.le_of (by first | rfl | simp [keep]) (by first | rfl | simp [keep])) (⟨Nat.zero_le _, hst i⟩) ?_
    rintro ⟨t, Q, c⟩ ⟨ht, hI⟩
    simp only at ht hI
    refine Do.seqk fun _ k11_ => ?_
    refine Do.seqk fun _ k12_ => ?_
    refine Do.region [0,1,5,6,7,8,24] true ?_
    simp [go_sem, -List.reduceReplicate]
    repeat (refine And.intro (by first | omega | (intros; omega) | grind) ?_)
    apply k12_; clear k12_
    refine Do.cond [0,1,5,6,7,8] rfl (fun h2 => ?_) (fun h2 => ?_) <;> simp [go_sem, -List.reduceReplicate] at h2 ⊢
    · obtain ⟨hb1, Q', e1, hI'⟩ := hI.next h h2
      have g1 := @dg_dig (j + k) Q (i + t) (by omega)
      have g2 := @dg_dig j a i h
      have g3 := @dg_dig k b t h2
      have l1 := dig_lt Q (i + t)
      have l2 := mul_lt_sq (dig_lt a i) (dig_lt b t)
      have hc := hI.2.2
      have b1 : c + dig Q (i + t) + dig a i * dig b t < M64 := hb1
      have b2 : c + dig Q (i + t) < M64 := by unfold M64; omega
      have b3 : dig a i * dig b t < M64 := by unfold M64; omega
      refine Do.skip ?_
      simp [go_sem]
      apply k11_; clear k11_
      refine Do.seqk fun _ k13_ => ?_
      refine Do.block ?_
      refine Do.seqk fun _ k14_ => ?_
      refine Do.draw [0,1,5,6,7,8] true (by kernel_rfl) ?_
      simp [go_sem, g1, g2, g3, b1, b2, b3, show ((i : Int) + t).toNat = i + t by omega]
      repeat (refine And.intro (by first | omega | (intros; omega) | kernel_rfl | grind) ?_)
      try (refine And.intro (by kernel_rfl) ?_)
      apply k14_; clear k14_
      refine Do.seqk fun _ k15_ => ?_
      refine Do.region [0,1,5,6,7,8] true ?_
      simp [go_sem, g1, g2, g3, b1, b2, b3, show ((i : Int) + t).toNat = i + t by omega]
      repeat (refine And.intro (by first | omega | (intros; omega) | grind) ?_)
      apply k15_; clear k15_
      refine Do.region [0,1,5,6,7,8] true ?_
      simp [go_sem, g1, g2, g3, b1, b2, b3, show ((i : Int) + t).toNat = i + t by omega]
      repeat (refine And.intro (by first | omega | (intros; omega) | grind) ?_)
      apply k13_; clear k13_
      refine Do.region [0,1,5,6,7,8] true ?_
      simp [go_sem, g1, g2, g3, b1, b2, b3, show ((i : Int) + t).toNat = i + t by omega]
      repeat (refine And.intro (by first | omega | (intros; omega) | grind) ?_)
      refine ⟨(t + 1, Q', (c + dig Q (i + t) + dig a i * dig b t) / 4294967296), St.le_of rfl (by simp [keep, e1]), ⟨by omega, hI'⟩, by simp; omega⟩
    · obtain rfl : t = k := by omega
      have ho := hout i Q c hI h
      refine Do.exit ?_
      simp [go_sem]
      apply k9_; clear k9_
      refine Do.region [0,1,5,6] true ?_
      simp [go_sem, show ((i : Int) + t).toNat = i + t by omega]
      repeat (refine And.intro (by first | omega | (intros; omega) | grind) ?_)
      apply k7_; clear k7_
      refine Do.region [0,1,5,6] true ?_
      simp [go_sem, show ((i : Int) + t).toNat = i + t by omega]
      repeat (refine And.intro (by first | omega | (intros; omega) | grind) ?_)
      refine ⟨i + 1, St.le_of rfl (by simp [keep, ho]), by omega, by simp; omega⟩
  · refine Do.exit ?_
    simp [go_sem]
    apply k3_; clear k3_
    refine Do.seqk fun _ k16_ => ?_
    refine Do.region [4] true ?_
    simp [go_sem, -List.reduceReplicate]
    apply k16_; clear k16_
    refine Do.ret ?_
    simp [endQ, rets, ret1, go_sem, -List.reduceReplicate]
    repeat (refine And.intro (by first | omega | (intros; omega) | grind) ?_)
    obtain rfl : i = j := by omega
    rw [hend]
    exact TLe.refl _
end Go.Proofs.YtbhokdhkfodpfaaGreatDoor
/- A quotient by one digit; shifts of digits. No condition. -/
namespace Go.Proofs.YtbhokdhkfodpfaaGreatDoor
set_option linter.unusedVariables false
set_option linter.unusedSimpArgs false
variable {G : Gl}
set_option maxHeartbeats 2000000
set_option maxRecDepth 10000
/-- The quotient of the digits from i on, at its place. -/
def qf (a w i : Nat) : Nat := hgh a i / w * 4294967296 ^ i
theorem qf_zero (a w : Nat) : qf a w 0 = a / w := by simp [qf, hi_zero]
theorem qf_step {a w j i : Nat} (h : i < j) (hw : 0 < w) (hw' : w < 4294967296) : hgh a (i + 1) % w * 4294967296 + dig a i < 18446744073709551616 ∧ (dg (qf a w (i + 1)) j).set i ((hgh a (i + 1) % w * 4294967296 + dig a i) / w) = dg (qf a w i) j ∧ (hgh a (i + 1) % w * 4294967296 + dig a i) % w = hgh a i % w := by
  have l1 := dig_lt a i
  have l2 := Nat.mod_lt (hgh a (i + 1)) hw
  have e0 := Nat.div_add_mod (hgh a (i + 1)) w
  have e1 := hi_step a i
  have l3 : (hgh a (i + 1) % w * 4294967296 + dig a i) / w < 4294967296 := by
    rw [Nat.div_lt_iff_lt_mul hw]
    have : (hgh a (i + 1) % w + 1) * 4294967296 ≤ w * 4294967296 := Nat.mul_le_mul_right _ l2
    omega
  obtain ⟨Q', e2, e3, _⟩ := @dg_set (qf a w (i + 1)) j i _ h l3
  have e4 : hgh a i = hgh a (i + 1) % w * 4294967296 + dig a i + w * (hgh a (i + 1) / w * 4294967296) := by
    rw [e1]
    conv => lhs; rw [← e0]
    rw [Nat.add_mul, Nat.mul_assoc]; omega
  refine ⟨by omega, ?_, by rw [e4, Nat.add_mul_mod_self_left]⟩
  rw [e2]
  congr 1
  have e5 : dig (qf a w (i + 1)) i = 0 := by
    rw [qf, Nat.pow_succ, ← Nat.mul_assoc, Nat.mul_right_comm]
    unfold dig
    rw [Nat.mul_div_cancel _ (Hpos i), Nat.mul_mod_left]
  rw [e5, Nat.zero_mul, Nat.add_zero] at e3
  rw [e3, qf, qf, e4, Nat.add_mul_div_left _ _ hw, Nat.add_mul, Nat.pow_succ]
  have : hgh a (i + 1) / w * (4294967296 ^ i * 4294967296) = hgh a (i + 1) / w * 4294967296 * 4294967296 ^ i := by ac_rfl
  omega
theorem qf_top {a w j : Nat} (ha : a < 4294967296 ^ j) : qf a w j = 0 := by rw [qf, hi_none ha (Nat.le_refl _)]; simp
theorem one_does {a w j : Nat} (ha : a < 4294967296 ^ j) (hw : 0 < w) (hw' : w < 4294967296) (hj : j ≤ 4294967296) : Does Tryz.prog G 161 [Wd (dg a j), .c (.n w)] (.t [Wn (dg (a / w) j), Wn [a % w]]) := by
  have htop := @qf_top a w j ha
  have hz := @hi_none a j ha j (Nat.le_refl _)
  have h00 := qf_zero a w
  have h01 := hi_zero a
  have hst := fun i (h : i < j) => @qf_step a w j i h hw hw'
  clear ha
  refine Does.of (nt := 38) Tryz.func161 rfl rfl rfl (by simp) ?_
  simp only [argTm, PV.ext, Ce.ext]
  refine Do.seqk fun _ k1_ => ?_
  refine Do.region [0,1] true ?_
  simp [go_sem, -List.reduceReplicate]
  apply k1_; clear k1_
  refine Do.seqk fun _ k2_ => ?_
  refine Do.region [0,1,6] true ?_
  simp [go_sem, -List.reduceReplicate]
  repeat (refine And.intro (by first | omega | (intros; omega) | grind) ?_)
  apply k2_; clear k2_
  refine Do.seqk fun _ k3_ => ?_
  refine Do.region [0,1,6,7] true ?_
  simp [go_sem, -List.reduceReplicate]
  apply k3_; clear k3_
  refine Do.seqk fun _ k4_ => ?_
  refine Do.seqk fun _ k5_ => ?_
  refine Do.region [0,1,6,7,8] true ?_
  simp [go_sem, -List.reduceReplicate]
  repeat (refine And.intro (by first | omega | (intros; omega) | grind) ?_)
  apply k5_; clear k5_
  refine Do.block ?_
  rw [dg_zero]
  refine Do.loopF [0,1,6,7,8] (fun (i : Nat) => [(7, .v (.c (.n (hgh a i % w)))), (8, .int .i64 ((i : Int) - 1))]) (fun (i : Nat) => [(102, .wr (dg (qf a w i) j))]) (fun (i : Nat) => i ≤ j) (fun (i : Nat) => i) (j) (fun _ => by first | (simp [go_sem, mixS]; done) | (simp [go_sem, mixS]; rfl)) (St.le_of (by simp [keep, htop, hz]) (by simp [keep, htop, hz])) (Nat.le_refl _) ?_
  intro i hi
  refine Do.seqk fun _ k6_ => ?_
  refine Do.seqk fun _ k7_ => ?_
  refine Do.region [0,1,6,7,8,16] true ?_
  simp [go_sem, -List.reduceReplicate]
  apply k7_; clear k7_
  refine Do.cond [0,1,6,7,8] rfl (fun h => ?_) (fun h => ?_) <;> simp [go_sem, -List.reduceReplicate] at h ⊢
  · obtain ⟨i, rfl⟩ : ∃ x, i = x + 1 := ⟨i - 1, by omega⟩
    rw [show ((i + 1 : Nat) : Int) - 1 = i by omega]
    have hs := hst i (by omega)
    have g1 := @dg_dig j a i (by omega)
    have b1 : hgh a (i + 1) % w * 4294967296 + dig a i < M64 := hs.1
    have b2 : hgh a (i + 1) % w * 4294967296 < M64 := Nat.lt_of_le_of_lt (Nat.le_add_right _ _) b1
    refine Do.skip ?_
    simp [go_sem]
    apply k6_; clear k6_
    refine Do.seqk fun _ k8_ => ?_
    refine Do.block ?_
    refine Do.seqk fun _ k9_ => ?_
    refine Do.region [0,1,6,7,8] true ?_
    simp [go_sem, g1, b1, b2, Nat.ne_of_gt hw]
    repeat (refine And.intro (by first | omega | (intros; omega) | grind) ?_)
    apply k9_; clear k9_
    refine Do.seqk fun _ k10_ => ?_
    refine Do.region [0,1,6,7,8] true ?_
    simp [go_sem, g1, b1, b2, Nat.ne_of_gt hw]
    repeat (refine And.intro (by first | omega | (intros; omega) | grind) ?_)
    apply k10_; clear k10_
    refine Do.region [0,1,6,7,8] true ?_
    simp [go_sem, g1, b1, b2, Nat.ne_of_gt hw]
    repeat (refine And.intro (by first | omega | (intros; omega) | grind) ?_)
    apply k8_; clear k8_
    refine Do.region [0,1,6,7,8] true ?_
    simp [go_sem, g1, b1, b2, Nat.ne_of_gt hw]
    repeat (refine And.intro (by first | omega | (intros; omega) | grind) ?_)
    refine ⟨i, St.le_of (by simp [keep, hs.2.2]) (by simp [keep, hs.2.1]), by omega, by simp⟩
  · refine Do.exit ?_
    simp [go_sem]
    apply k4_; clear k4_
    refine Do.seqk fun _ k11_ => ?_
    refine Do.region [4,5] true ?_
    simp [go_sem, -List.reduceReplicate]
    apply k11_; clear k11_
    refine Do.ret ?_
    simp [endQ, rets, ret1, go_sem, -List.reduceReplicate]
    repeat (refine And.intro (by first | omega | (intros; omega) | grind) ?_)
    obtain rfl : i = 0 := by omega
    rw [h00, h01]
    exact TLe.refl _
theorem Left01_does {x : List Nat} {s : Nat} (hx : x.length ≤ 1073741823) (hw : Ws x) (hs : s < 64) : ∃ row hig, Does Tryz.prog G 81 [Wd x, .c (.i .i64 s)] (.t [Wn row, .c (.n hig)]) ∧ Ws row ∧ hig < 18446744073709551616 ∧ row.length = x.length ∧ val row + 18446744073709551616 ^ x.length * hig = val x * 2 ^ s := by
  have hv := val_lt hw
  have h2 : 2 ^ s < 18446744073709551616 := Nat.lt_of_lt_of_le (Nat.pow_lt_pow_right (by decide) hs) (by decide)
  have hN : val x * 2 ^ s < 18446744073709551616 ^ (x.length + 1) := by
    rw [Nat.pow_succ]
    exact Nat.mul_lt_mul_of_lt_of_le hv (Nat.le_of_lt h2) (by decide)
  have hT := @Times_does G (val x) (2 ^ s) (2 * x.length) 2 (by rwa [← HB]) (show 2 ^ s < 4294967296 ^ 2 from h2) (by omega) (by omega)
  have hC := @Cut_does G (val x * 2 ^ s) (2 * x.length + 2) x.length (by omega) (by omega) (by rw [show 2 * x.length + 2 = 2 * (x.length + 1) by omega, ← HB]; exact hN)
  have hD := @Digits_does G x (by omega) hw
  have hW := @Word_does G (2 ^ s) h2
  refine ⟨wds (val x * 2 ^ s) x.length, val x * 2 ^ s / 18446744073709551616 ^ x.length % 18446744073709551616, ?_, wds_ws _ _, Nat.mod_lt _ (by decide), wds_len _ _, ?_⟩
  · generalize val x * 2 ^ s / 18446744073709551616 ^ x.length % 18446744073709551616 = z at *
    generalize val x * 2 ^ s = N at *
    clear hN hv
    refine Does.of (nt := 17) Tryz.func81 rfl rfl rfl (by simp) ?_
    simp only [argTm, PV.ext, Ce.ext]
    refine Do.seqk fun _ k1_ => ?_
    refine Do.region [0,1] true ?_
    simp [go_sem, show 2 ^ s % M64 = 2 ^ s from Nat.mod_eq_of_lt h2]
    apply k1_; clear k1_
    refine Do.seqk fun _ k2_ => ?_
    refine Do.draw [4,5] true (by kernel_rfl) ?_
    simp [go_sem, show 2 ^ s % M64 = 2 ^ s from Nat.mod_eq_of_lt h2]
    refine DoLD.call true 102 rfl rfl rfl rfl (by first | exact trivial | omega | (simp; done) | (simp; omega)) (hD) rfl (by first | exact .inl rfl | exact .inr rfl) rfl ?_
    simp [go_sem, show 2 ^ s % M64 = 2 ^ s from Nat.mod_eq_of_lt h2]
    repeat (refine And.intro (by first | omega | (intros; omega) | kernel_rfl | grind) ?_)
    refine DoLD.call true 105 rfl rfl rfl rfl (by first | exact trivial | omega | (simp; done) | (simp; omega)) (hW) rfl (by first | exact .inl rfl | exact .inr rfl) rfl ?_
    simp [go_sem, show 2 ^ s % M64 = 2 ^ s from Nat.mod_eq_of_lt h2]
    refine DoLD.call true 106 rfl rfl rfl rfl (by first | exact trivial | omega | (simp; done) | (simp; omega)) (hT) rfl (by first | exact .inl rfl | exact .inr rfl) rfl ?_
    simp [go_sem, show 2 ^ s % M64 = 2 ^ s from Nat.mod_eq_of_lt h2]
    repeat (refine And.intro (by first | omega | (intros; omega) | kernel_rfl | grind) ?_)
    refine DoLD.call true 109 rfl rfl rfl rfl (by first | exact trivial | omega | (simp; done) | (simp; omega)) (hC) rfl (by first | exact .inl rfl | exact .inr rfl) rfl ?_
    simp [go_sem, show 2 ^ s % M64 = 2 ^ s from Nat.mod_eq_of_lt h2]
    try (refine And.intro (by kernel_rfl) ?_)
    apply k2_; clear k2_
    refine Do.ret ?_
    simp [endQ, rets, ret1, go_sem, show 2 ^ s % M64 = 2 ^ s from Nat.mod_eq_of_lt h2]
    repeat (refine And.intro (by first | omega | (intros; omega) | grind) ?_)
    exact TLe.refl _
  · rw [val_wds, Nat.add_comm]
    have := Nat.div_add_mod (val x * 2 ^ s) (18446744073709551616 ^ x.length)
    rw [Nat.mod_eq_of_lt (show val x * 2 ^ s / 18446744073709551616 ^ x.length < 18446744073709551616 by
      rw [Nat.div_lt_iff_lt_mul (Nat.pow_pos (by decide))]; rw [Nat.pow_succ, Nat.mul_comm (18446744073709551616 ^ _)] at hN; exact hN)]
    exact this
theorem RLeft_does {x : List Nat} {s : Nat} (hx : x.length ≤ 536870912) (hw : Ws x) (hs : s ≤ 4294967296) : Does Tryz.prog G 47 [Wd x, .c (.i .i64 s)] (.v (Wn (nat (val x * 2 ^ s)))) := by
  obtain ⟨row, hig, hD, h1, h2, h3, h4⟩ := @Left01_does G x (s % 64) (by omega) hw (Nat.mod_lt _ (by decide))
  have hT := @RTrim_does G (List.replicate (s / 64) 0 ++ row ++ [hig]) (by simp; omega) (by
    intro w hw
    simp only [List.mem_append, List.mem_replicate, List.mem_singleton] at hw
    rcases hw with (hw | hw) | hw
    · omega
    · exact h1 w hw
    · omega)
  have hv : val (List.replicate (s / 64) 0 ++ row ++ [hig]) = val x * 2 ^ s := by
    rw [List.append_assoc, val_append, val_zeros, val_append, h3, List.length_replicate, Nat.zero_add, show val [hig] = hig by simp [val], h4, B64_pow, Nat.mul_left_comm, ← Nat.pow_add, show 64 * (s / 64) + s % 64 = s by omega]
  rw [hv] at hT
  generalize val x * 2 ^ s = N at *
  rw [List.append_assoc] at hT
  refine Does.of (nt := 26) Tryz.func47 rfl rfl rfl (by simp) ?_
  simp only [argTm, PV.ext, Ce.ext]
  refine Do.seqk fun _ k1_ => ?_
  refine Do.region [0,1] true ?_
  simp [go_sem, -List.reduceReplicate, show ((s : Int) / 64).toNat = s / 64 by omega]
  apply k1_; clear k1_
  refine Do.seqk fun _ k2_ => ?_
  refine Do.region [1,5,6] true ?_
  simp [go_sem, -List.reduceReplicate, show ((s : Int) / 64).toNat = s / 64 by omega]
  repeat (refine And.intro (by first | omega | (intros; omega) | grind) ?_)
  refine DoL.call true 104 rfl rfl rfl rfl (by first | exact trivial | omega | (simp; done) | (simp; omega)) (hD) rfl (by first | exact .inl rfl | exact .inr rfl) rfl ?_
  simp [go_sem, -List.reduceReplicate, show ((s : Int) / 64).toNat = s / 64 by omega]
  apply k2_; clear k2_
  refine Do.seqk fun _ k3_ => ?_
  refine Do.region [5,6,7] true ?_
  simp [go_sem, -List.reduceReplicate, show ((s : Int) / 64).toNat = s / 64 by omega]
  repeat (refine And.intro (by first | omega | (intros; omega) | grind) ?_)
  apply k3_; clear k3_
  refine Do.seqk fun _ k4_ => ?_
  refine Do.region [6,7] true ?_
  simp [go_sem, -List.reduceReplicate, show ((s : Int) / 64).toNat = s / 64 by omega]
  repeat (refine And.intro (by first | omega | (intros; omega) | grind) ?_)
  apply k4_; clear k4_
  refine Do.seqk fun _ k5_ => ?_
  refine Do.region [4] true ?_
  simp [go_sem, -List.reduceReplicate, show ((s : Int) / 64).toNat = s / 64 by omega]
  repeat (refine And.intro (by first | omega | (intros; omega) | grind) ?_)
  refine DoL.frz true 404 202 rfl ?_
  simp [go_sem]
  refine DoL.call true 405 rfl rfl rfl rfl (by first | exact trivial | omega | (simp; done) | (simp; omega)) (hT) rfl (by first | exact .inl rfl | exact .inr rfl) rfl ?_
  simp [go_sem, -List.reduceReplicate, show ((s : Int) / 64).toNat = s / 64 by omega]
  apply k5_; clear k5_
  refine Do.ret ?_
  simp [endQ, rets, ret1, go_sem, -List.reduceReplicate, show ((s : Int) / 64).toNat = s / 64 by omega]
  repeat (refine And.intro (by first | omega | (intros; omega) | grind) ?_)
  exact TLe.refl _
end Go.Proofs.YtbhokdhkfodpfaaGreatDoor
/- Sums, differences, products of the reference's natural numbers. No condition. -/
namespace Go.Proofs.YtbhokdhkfodpfaaGreatDoor
set_option linter.unusedVariables false
set_option linter.unusedSimpArgs false
variable {G : Gl}
set_option maxHeartbeats 2000000
theorem ws_dg {x : List Nat} (hw : Ws x) : val x < 4294967296 ^ (2 * x.length) := by rw [← HB]; exact val_lt hw
theorem sum_lt {a b j k : Nat} (ha : a < 4294967296 ^ j) (hb : b < 4294967296 ^ k) : a + b < 4294967296 ^ ((if j < k then k else j) + 1) := by
  have h1 : a < 4294967296 ^ (if j < k then k else j) := Nat.lt_of_lt_of_le ha (Nat.pow_le_pow_right (by decide) (by split <;> omega))
  have h2 : b < 4294967296 ^ (if j < k then k else j) := Nat.lt_of_lt_of_le hb (Nat.pow_le_pow_right (by decide) (by split <;> omega))
  rw [Nat.pow_succ]; omega
theorem mul_lt {a b j k : Nat} (ha : a < 4294967296 ^ j) (hb : b < 4294967296 ^ k) : a * b < 4294967296 ^ (j + k) := by
  rw [Nat.pow_add]; exact Nat.mul_lt_mul_of_lt_of_le ha (Nat.le_of_lt hb) (Hpos k)
theorem RAdd_does {x y : List Nat} (hx : x.length ≤ 536870912) (wx : Ws x) (hy : y.length ≤ 536870912) (wy : Ws y) : Does Tryz.prog G 132 [Wd x, Wd y] (.v (Wn (nat (val x + val y)))) := by
  have hP := @Plus_r_does G (val x) (val y) (2 * x.length) (2 * y.length) _ (ws_dg wx) (ws_dg wy) (by omega) (by omega) rfl
  have hn := @rnat_does G (val x + val y) ((if 2 * x.length < 2 * y.length then 2 * y.length else 2 * x.length) + 1) (by split <;> omega) (sum_lt (ws_dg wx) (ws_dg wy))
  generalize (if 2 * x.length < 2 * y.length then 2 * y.length else 2 * x.length) + 1 = m at *
  generalize val x + val y = N at *
  have hA := @Digits_does G x (by omega) wx
  have hB := @Digits_does G y (by omega) wy
  refine Does.of (nt := 11) Tryz.func132 rfl rfl rfl (by simp) ?_
  simp only [argTm, PV.ext, Ce.ext]
  refine Do.seqk fun _ k1_ => ?_
  refine Do.region [0,1] true ?_
  simp [go_sem]
  apply k1_; clear k1_
  refine Do.seqk fun _ k2_ => ?_
  refine Do.region [4] true ?_
  simp [go_sem]
  refine DoL.call true 102 rfl rfl rfl rfl (by first | exact trivial | omega | (simp; done) | (simp; omega)) (hA) rfl (by first | exact .inl rfl | exact .inr rfl) rfl ?_
  simp [go_sem]
  refine DoL.call true 104 rfl rfl rfl rfl (by first | exact trivial | omega | (simp; done) | (simp; omega)) (hB) rfl (by first | exact .inl rfl | exact .inr rfl) rfl ?_
  simp [go_sem]
  refine DoL.call true 105 rfl rfl rfl rfl (by first | exact trivial | omega | (simp; done) | (simp; omega)) (hP) rfl (by first | exact .inl rfl | exact .inr rfl) rfl ?_
  simp [go_sem]
  refine DoL.call true 106 rfl rfl rfl rfl (by first | exact trivial | omega | (simp; done) | (simp; omega)) (hn) rfl (by first | exact .inl rfl | exact .inr rfl) rfl ?_
  simp [go_sem]
  apply k2_; clear k2_
  refine Do.ret ?_
  simp [endQ, rets, ret1, go_sem]
  repeat (refine And.intro (by first | omega | (intros; omega) | grind) ?_)
  exact TLe.refl _
theorem RWord_does {w : Nat} (hw : w < 18446744073709551616) : Does Tryz.prog G 48 [.c (.n w)] (.v (Wn (nat w))) := by
  have hn := @rnat_does G w 2 (by omega) (show w < 4294967296 ^ 2 from hw)
  refine Does.of (nt := 6) Tryz.func48 rfl rfl rfl (by simp) ?_
  simp only [argTm, PV.ext, Ce.ext]
  refine Do.seqk fun _ k1_ => ?_
  refine Do.region [0] true ?_
  simp [go_sem]
  apply k1_; clear k1_
  refine Do.seqk fun _ k2_ => ?_
  refine Do.region [2] true ?_
  simp [go_sem]
  refine DoL.call true 102 rfl rfl rfl rfl (by first | exact trivial | omega | (simp; done) | (simp; omega)) (Word_does hw) rfl (by first | exact .inl rfl | exact .inr rfl) rfl ?_
  simp [go_sem]
  refine DoL.call true 103 rfl rfl rfl rfl (by first | exact trivial | omega | (simp; done) | (simp; omega)) (hn) rfl (by first | exact .inl rfl | exact .inr rfl) rfl ?_
  simp [go_sem]
  apply k2_; clear k2_
  refine Do.ret ?_
  simp [endQ, rets, ret1, go_sem]
  repeat (refine And.intro (by first | omega | (intros; omega) | grind) ?_)
  exact TLe.refl _
end Go.Proofs.YtbhokdhkfodpfaaGreatDoor
/- The integers of the reference. No condition. -/
namespace Go.Proofs.YtbhokdhkfodpfaaGreatDoor
set_option linter.unusedVariables false
set_option linter.unusedSimpArgs false
variable {G : Gl}
set_option maxHeartbeats 2000000
set_option maxRecDepth 10000
/-- An integer's fields. -/
abbrev Ig (n : Bool) (m : List Nat) : PV := .a [.b n, .w false m]
/-- A canonical integer. -/
abbrev Iv (z : Int) : PV := Ig (decide (z < 0)) (nat z.natAbs)
/-- The value of a sign and a size. -/
def sgn (n : Bool) (v : Nat) : Int := if n then -(v : Int) else v
theorem sgn_abs (n : Bool) (v : Nat) : (sgn n v).natAbs = v := by unfold sgn; split <;> omega
theorem sgn_of (z : Int) : sgn (decide (z < 0)) z.natAbs = z := by unfold sgn; split <;> rename_i h <;> simp at h <;> omega
theorem nat_len_zero (v : Nat) : 0 < (nat v).length ↔ v ≠ 0 := by
  constructor
  · intro h h0; subst h0; rw [nat_zero] at h; simp at h
  · intro h
    apply Classical.byContradiction
    intro hn
    have : nat v = [] := List.length_eq_zero_iff.1 (by omega)
    have h2 := val_nat v
    rw [this] at h2
    simp [val] at h2
    omega
theorem PLe.ig {n : Bool} {c : Ce} {m : List Nat} (h : PLe (.c c) (.c (.w false m))) : PLe (.a [.b n, c]) (Ig n m) := by
  rintro E v ⟨vs, h1, h2⟩
  refine ⟨vs, h1, ?_⟩
  obtain ⟨v1, r1, e1, a1, h2⟩ := h2.cons_iff
  obtain ⟨v2, r2, e2, a2, h2⟩ := h2.cons_iff
  rw [e1, e2]
  exact .cons a1 (.cons (h _ _ a2) h2)
theorem IMake_does {n : Bool} {m : List Nat} (hm : m.length ≤ 1073741824) (wm : Ws m) : Does Tryz.prog G 80 [.c (.b n), Wd m] (.v (Iv (sgn n (val m)))) := by
  have hT := @RTrim_does G m hm wm
  have hz := nat_len_zero (val m)
  generalize hv : val m = v at *
  refine Does.of (nt := 15) Tryz.func80 rfl rfl rfl (by simp) ?_
  simp only [argTm, PV.ext, Ce.ext]
  refine Do.seqk fun _ k1_ => ?_
  refine Do.region [0,1,4] true ?_
  simp [go_sem]
  apply k1_; clear k1_
  refine Do.seqk fun _ k2_ => ?_
  refine Do.region [0,1,4] true ?_
  simp [go_sem]
  refine DoL.call true 102 rfl rfl rfl rfl (by first | exact trivial | omega | (simp; done) | (simp; omega)) (hT) rfl (by first | exact .inl rfl | exact .inr rfl) rfl ?_
  simp [go_sem]
  apply k2_; clear k2_
  refine Do.seqk fun _ k3_ => ?_
  refine Do.region [4] true ?_
  simp [go_sem]
  repeat (refine And.intro (by first | omega | (intros; omega) | grind) ?_)
  apply k3_; clear k3_
  refine Do.ret ?_
  simp [endQ, rets, ret1, go_sem]
  repeat (refine And.intro (by first | omega | (intros; omega) | grind) ?_)
  have e : (n && decide (0 < (nat v).length)) = decide (sgn n v < 0) := by
    by_cases h : v = 0
    · have h2 : ¬ 0 < (nat v).length := fun hh => hz.1 hh h
      have h4 : nat 0 = [] := nat_zero
      subst h
      cases n <;> simp [h4, sgn]
    · have h3 := hz.2 h
      cases n <;> simp only [sgn, h3, decide_true, Bool.and_true, Bool.false_and, if_true, if_false, Bool.false_eq_true] <;> simp <;> omega
  rw [e]
  show TLe _ (.v (Ig (decide (sgn n v < 0)) (nat (sgn n v).natAbs)))
  rw [sgn_abs]
  exact TLe.v (PLe.ig (PLe.ext (.c (.w true _))))
theorem ITrim_does {n : Bool} {m : List Nat} (hm : m.length ≤ 1073741824) (wm : Ws m) : Does Tryz.prog G 106 [Ig n m] (.v (Iv (sgn n (val m)))) := by
  have hM := @IMake_does G n m hm wm
  generalize sgn n (val m) = z at *
  refine Does.of (nt := 8) Tryz.func106 rfl rfl rfl (by simp) ?_
  simp only [argTm, PV.ext, Ce.ext]
  refine Do.seqk fun _ k1_ => ?_
  refine Do.region [1,2] true ?_
  simp [go_sem]
  apply k1_; clear k1_
  refine Do.seqk fun _ k2_ => ?_
  refine Do.region [2] true ?_
  simp [go_sem]
  repeat (refine And.intro (by first | omega | (intros; omega) | grind) ?_)
  refine DoL.call true 105 rfl rfl rfl rfl (by first | exact trivial | omega | (simp; done) | (simp; omega)) (hM) rfl (by first | exact .inl rfl | exact .inr rfl) rfl ?_
  simp [go_sem]
  repeat (refine And.intro (by first | omega | (intros; omega) | grind) ?_)
  apply k2_; clear k2_
  refine Do.ret ?_
  simp [endQ, rets, ret1, go_sem]
  repeat (refine And.intro (by first | omega | (intros; omega) | grind) ?_)
  exact TLe.refl _
theorem IMake11_does {n : Bool} {m : List Nat} (hm : m.length ≤ 1073741824) (wm : Ws m) : Does Tryz.prog G 46 [.c (.b n), Wd m] (.v (Iv (sgn n (val m)))) := by
  have hM := @IMake_does G n m hm wm
  generalize sgn n (val m) = z at *
  refine Does.of (nt := 8) Tryz.func46 rfl rfl rfl (by simp) ?_
  simp only [argTm, PV.ext, Ce.ext]
  refine Do.seqk fun _ k1_ => ?_
  refine Do.region [0,1,4] true ?_
  simp [go_sem]
  apply k1_; clear k1_
  refine Do.seqk fun _ k2_ => ?_
  refine Do.region [4] true ?_
  simp [go_sem]
  refine DoL.call true 103 rfl rfl rfl rfl (by first | exact trivial | omega | (simp; done) | (simp; omega)) (hM) rfl (by first | exact .inl rfl | exact .inr rfl) rfl ?_
  simp [go_sem]
  repeat (refine And.intro (by first | omega | (intros; omega) | grind) ?_)
  apply k2_; clear k2_
  refine Do.ret ?_
  simp [endQ, rets, ret1, go_sem]
  repeat (refine And.intro (by first | omega | (intros; omega) | grind) ?_)
  exact TLe.refl _
end Go.Proofs.YtbhokdhkfodpfaaGreatDoor
