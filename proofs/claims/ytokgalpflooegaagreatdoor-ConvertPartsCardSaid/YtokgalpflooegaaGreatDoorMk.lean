/- Division by 1; a ratio by 1, rounded. No condition. Conversions, plain. No condition. The integer part of a number; the arguments of conversions. No condition. Rounding of rational numbers whose denominator is 1; the program awake. No condition. The law ConvertFormats. No condition. The law ConvertLarge. No condition. -/
import Derived.Test.YtokgalpflooegaaGreatDoorMf
import Derived.Test.YtokgalpflooegaaGreatDoorMh
import Derived.Test.YtokgalpflooegaaGreatDoorMd
import Derived.Test.YtokgalpflooegaaGreatDoorMi
import Derived.Test.YtokgalpflooegaaGreatDoorMg
import Derived.KernelRfl
/- Division by 1; a ratio by 1, rounded. No condition. -/
namespace Go.Proofs.YtokgalpflooegaaGreatDoor
set_option linter.unusedVariables false
set_option linter.unusedSimpArgs false
variable {G : Gl}
set_option maxHeartbeats 4000000
set_option maxRecDepth 10000
theorem Div64_low {lo w : Nat} (hl : lo < 18446744073709551616) (hw : 0 < w) : Does Tryz.prog G 193 [.c (.n 0), .c (.n lo), .c (.n w)] (.t [.c (.n (lo / w)), .c (.n (lo % w))]) := by
  have hw0 : ¬ w = 0 := by omega
  have hw1 : ¬ w ≤ 0 := by omega
  refine Does.of (nt := 135) Tryz.func193 rfl rfl rfl (by simp) ?_
  simp only [argTm, PV.ext, Ce.ext]
  refine Do.seqk fun _ k1_ => ?_
  refine Do.region [0,1,2] true ?_
  simp [go_sem, hw0, hw1]
  apply k1_; clear k1_
  refine Do.seqk fun _ k2_ => ?_
  refine Do.seqk fun _ k3_ => ?_
  refine Do.region [0,1,2,20] true ?_
  simp [go_sem, hw0, hw1]
  apply k3_; clear k3_
  refine Do.cond [0,1,2] rfl (fun h1 => ?_) (fun h1 => ?_) <;> simp [go_sem, hw0, hw1] at h1 ⊢
  refine Do.skip ?_
  simp [go_sem]
  apply k2_; clear k2_
  refine Do.seqk fun _ k4_ => ?_
  refine Do.seqk fun _ k5_ => ?_
  refine Do.region [0,1,2,24] true ?_
  simp [go_sem, hw0, hw1]
  apply k5_; clear k5_
  refine Do.cond [0,1,2] rfl (fun h2 => ?_) (fun h2 => ?_) <;> simp [go_sem, hw0, hw1] at h2 ⊢
  refine Do.skip ?_
  simp [go_sem]
  apply k4_; clear k4_
  refine Do.seqk fun _ k6_ => ?_
  refine Do.seqk fun _ k7_ => ?_
  refine Do.region [0,1,2,27] true ?_
  simp [go_sem, hw0, hw1]
  apply k7_; clear k7_
  refine Do.cond [0,1,2] rfl (fun h3 => ?_) (fun h3 => ?_) <;> simp [go_sem, hw0, hw1] at h3 ⊢
  refine Do.seqk fun _ k8_ => ?_
  refine Do.draw [6,7] true (by kernel_rfl) ?_
  simp [go_sem, hw0, hw1]
  repeat (refine And.intro (by first | omega | (intros; omega) | (intros; exact And.intro (by assumption) (by omega)) | kernel_rfl | grind) ?_)
  try (refine And.intro (by kernel_rfl) ?_)
  apply k8_; clear k8_
  refine Do.ret ?_
  simp [endQ, rets, ret1, go_sem, hw0, hw1]
  repeat (refine And.intro (by first | omega | (intros; omega) | (intros; exact And.intro (by assumption) (by omega)) | grind) ?_)
  exact TLe.refl _
theorem drop_set {x : List Nat} {s : Nat} (hs : s < x.length) {w : Nat} (hw : x[s]? = some w) : (List.replicate (s + 1) 0 ++ x.drop (s + 1)).set s w = List.replicate s 0 ++ x.drop s := by
  rw [List.replicate_succ', List.append_assoc, List.set_append_right _ _ (by simp)]
  simp only [List.length_replicate, Nat.sub_self, List.cons_append, List.nil_append, List.set_cons_zero]
  rw [List.drop_eq_getElem_cons hs]
  congr 2
  rw [List.getElem?_eq_getElem hs] at hw
  exact (Option.some.inj hw).symm
theorem divWord_one {x : List Nat} (hx : x.length < 1073741824) (wx : Ws x) : Does Tryz.prog G 186 [Wd x, .c (.n 1)] (.t [Wn (nat (val x)), .c (.n 0)]) := by
  have hT := @Trim_does G x (by unfold Sh; omega) wx
  have hlen : ∀ s, s ≤ x.length → (List.replicate s 0 ++ x.drop s).length = x.length := fun s hs => by simp; omega
  refine Does.of (nt := 35) Tryz.func186 rfl rfl rfl (by simp) ?_
  simp only [argTm, PV.ext, Ce.ext]
  refine Do.seqk fun _ k1_ => ?_
  refine Do.region [0,1] true ?_
  simp [go_sem, -List.reduceReplicate]
  apply k1_; clear k1_
  refine Do.seqk fun _ k2_ => ?_
  refine Do.region [0,1,6] true ?_
  simp [go_sem, -List.reduceReplicate]
  repeat (refine And.intro (by first | omega | (intros; omega) | (intros; exact And.intro (by assumption) (by omega)) | grind) ?_)
  apply k2_; clear k2_
  refine Do.seqk fun _ k3_ => ?_
  refine Do.region [0,1,6,7] true ?_
  simp [go_sem, -List.reduceReplicate]
  apply k3_; clear k3_
  refine Do.seqk fun _ k4_ => ?_
  refine Do.seqk fun _ k5_ => ?_
  refine Do.region [0,1,6,7,8] true ?_
  simp [go_sem, -List.reduceReplicate]
  repeat (refine And.intro (by first | omega | (intros; omega) | (intros; exact And.intro (by assumption) (by omega)) | grind) ?_)
  apply k5_; clear k5_
  refine Do.block ?_
  refine Do.loopF [0,1,6,7,8] (fun (s : Nat) => [(7, .v (.c (.n 0))), (8, .int .i64 ((s : Int) - 1))]) (fun (s : Nat) => [(102, .wr (List.replicate s 0 ++ x.drop s))]) (fun (s : Nat) => s ≤ x.length) (fun (s : Nat) => s) (x.length) (fun _ => by first | (simp [go_sem, mixS]; done) | (simp [go_sem, mixS]; rfl)) (St.le_of (by simp [keep]) (by simp [keep])) (Nat.le_refl _) ?_
  intro s hs
  refine Do.seqk fun _ k6_ => ?_
  refine Do.seqk fun _ k7_ => ?_
  refine Do.region [0,1,6,7,8,16] true ?_
  simp [go_sem, -List.reduceReplicate]
  apply k7_; clear k7_
  refine Do.cond [0,1,6,7,8] rfl (fun h => ?_) (fun h => ?_) <;> simp [go_sem, -List.reduceReplicate] at h ⊢
  · obtain ⟨j, rfl⟩ : ∃ j, s = j + 1 := ⟨s - 1, by omega⟩
    obtain ⟨w, hw⟩ : ∃ w, x[j]? = some w := ⟨_, List.getElem?_eq_getElem (by omega)⟩
    have hwl := wx w (List.mem_of_getElem? hw)
    have hD := @Div64_low G w 1 hwl (by decide)
    rw [Nat.div_one, Nat.mod_one] at hD
    have hset := drop_set (show j < x.length by omega) hw
    have hl := hlen (j + 1) hs
    refine Do.skip ?_
    simp [go_sem]
    apply k6_; clear k6_
    refine Do.seqk fun _ k8_ => ?_
    refine Do.block ?_
    refine Do.region [0,1,6,7,8] true ?_
    simp [go_sem, show ((j : Int) + 1 - 1) = j by omega, hw, hl, -List.reduceReplicate]
    repeat (refine And.intro (by first | omega | (intros; omega) | (intros; exact And.intro (by assumption) (by omega)) | grind) ?_)
    refine DoL.call true 609 rfl rfl rfl rfl (by first | exact trivial | omega | (simp; done) | (simp; omega)) (hD) rfl (by first | exact .inl rfl | exact .inr rfl) rfl ?_
    simp [go_sem, show ((j : Int) + 1 - 1) = j by omega, hw, hl, -List.reduceReplicate]
    repeat (refine And.intro (by first | omega | (intros; omega) | (intros; exact And.intro (by assumption) (by omega)) | grind) ?_)
    apply k8_; clear k8_
    refine Do.region [0,1,6,7,8] true ?_
    simp [go_sem, show ((j : Int) + 1 - 1) = j by omega, hw, hl, -List.reduceReplicate]
    repeat (refine And.intro (by first | omega | (intros; omega) | (intros; exact And.intro (by assumption) (by omega)) | grind) ?_)
    refine ⟨j, St.le_of rfl (by simp [keep, ← hset, List.set_append_left]), by omega, by simp⟩
  · obtain rfl : s = 0 := by omega
    refine Do.exit ?_
    simp [go_sem]
    apply k4_; clear k4_
    refine Do.seqk fun _ k9_ => ?_
    refine Do.frz 102 rfl ?_
    simp [go_sem]
    refine Do.region [4,5] true ?_
    simp [go_sem, -List.reduceReplicate]
    refine DoL.call true 702 rfl rfl rfl rfl (by first | exact trivial | omega | (simp; done) | (simp; omega)) (hT) rfl (by first | exact .inl rfl | exact .inr rfl) rfl ?_
    simp [go_sem, -List.reduceReplicate]
    apply k9_; clear k9_
    refine Do.ret ?_
    simp [endQ, rets, ret1, go_sem, -List.reduceReplicate]
    repeat (refine And.intro (by first | omega | (intros; omega) | (intros; exact And.intro (by assumption) (by omega)) | grind) ?_)
    exact TLe.refl _
theorem WWord_zero : Does Tryz.prog G 187 [.c (.n 0)] (.v (Wn (nat 0))) := by
  have hT := @Trim_does G [0] (by decide) (fun w hw => by simp at hw; omega)
  refine Does.of (nt := 6) Tryz.func187 rfl rfl rfl (by simp) ?_
  simp only [argTm, PV.ext, Ce.ext]
  refine Do.seqk fun _ k1_ => ?_
  refine Do.region [0] true ?_
  simp [go_sem]
  apply k1_; clear k1_
  refine Do.seqk fun _ k2_ => ?_
  refine Do.region [2] true ?_
  simp [go_sem]
  refine DoL.frz true 102 101 rfl ?_
  simp [go_sem]
  refine DoL.call true 103 rfl rfl rfl rfl (by first | exact trivial | omega | (simp; done) | (simp; omega)) (hT) rfl (by first | exact .inl rfl | exact .inr rfl) rfl ?_
  simp [go_sem]
  apply k2_; clear k2_
  refine Do.ret ?_
  simp [endQ, rets, ret1, go_sem]
  repeat (refine And.intro (by first | omega | (intros; omega) | (intros; exact And.intro (by assumption) (by omega)) | grind) ?_)
  exact TLe.refl _
theorem WDivMod_one {x : List Nat} (hx : x.length < 1073741824) (wx : Ws x) (h0 : 0 < val x) : Does Tryz.prog G 168 [Wd x, Wd [1]] (.t [Wn (nat (val x)), Wn (nat 0)]) := by
  have w1 : Ws [1] := fun w hw => by simp at hw; omega
  have h1 := @view_does G x (by unfold Sh; omega)
  have h2 : Does Tryz.prog G 125 [Wd [1]] (.v (Wd [1])) := @view_does G [1] (by decide)
  have hn := norm_length x
  have h3 := @Cmp_does G (norm x) [1] (by unfold Sh; omega) (by decide) (norm_ws wx) w1
  rw [val_norm, show val [1] = 1 from rfl, if_neg (by omega)] at h3
  have h4 := @divWord_one G (norm x) (by omega) (norm_ws wx)
  rw [val_norm] at h4
  have h5 : ¬ (if 1 < val x then (1 : Int) else 0) < 0 := by split <;> omega
  refine Does.of (nt := 127) Tryz.func168 rfl rfl rfl (by simp) ?_
  simp only [argTm, PV.ext, Ce.ext]
  refine Do.seqk fun _ k1_ => ?_
  refine Do.region [0,1] true ?_
  simp [go_sem]
  apply k1_; clear k1_
  refine Do.seqk fun _ k2_ => ?_
  refine Do.region [0,1] true ?_
  simp [go_sem]
  refine DoL.call true 102 rfl rfl rfl rfl (by first | exact trivial | omega | (simp; done) | (simp; omega)) (h1) rfl (by first | exact .inl rfl | exact .inr rfl) rfl ?_
  simp [go_sem]
  refine DoL.call true 104 rfl rfl rfl rfl (by first | exact trivial | omega | (simp; done) | (simp; omega)) (h2) rfl (by first | exact .inl rfl | exact .inr rfl) rfl ?_
  simp [go_sem]
  apply k2_; clear k2_
  refine Do.seqk fun _ k3_ => ?_
  refine Do.seqk fun _ k4_ => ?_
  refine Do.region [0,1,22] true ?_
  simp [go_sem, h5]
  refine DoL.call true 203 rfl rfl rfl rfl (by first | exact trivial | omega | (simp; done) | (simp; omega)) (h3) rfl (by first | exact .inl rfl | exact .inr rfl) rfl ?_
  simp [go_sem, h5]
  apply k4_; clear k4_
  refine Do.cond [0,1] rfl (fun g1 => ?_) (fun g1 => ?_) <;> simp [go_sem, h5] at g1 ⊢
  refine Do.skip ?_
  simp [go_sem]
  apply k3_; clear k3_
  refine Do.seqk fun _ k5_ => ?_
  refine Do.seqk fun _ k6_ => ?_
  refine Do.region [0,1,27] true ?_
  simp [go_sem, h5]
  repeat (refine And.intro (by first | omega | (intros; omega) | (intros; exact And.intro (by assumption) (by omega)) | grind) ?_)
  apply k6_; clear k6_
  refine Do.cond [0,1] rfl (fun g2 => ?_) (fun g2 => ?_) <;> simp [go_sem, h5] at g2 ⊢
  refine Do.seqk fun _ k7_ => ?_
  refine Do.region [6,7] true ?_
  simp [go_sem, h5]
  repeat (refine And.intro (by first | omega | (intros; omega) | (intros; exact And.intro (by assumption) (by omega)) | grind) ?_)
  refine DoL.call true 505 rfl rfl rfl rfl (by first | exact trivial | omega | (simp; done) | (simp; omega)) (h4) rfl (by first | exact .inl rfl | exact .inr rfl) rfl ?_
  simp [go_sem, h5]
  apply k7_; clear k7_
  refine Do.seqk fun _ k8_ => ?_
  refine Do.region [4,5] true ?_
  simp [go_sem, h5]
  refine DoL.call true 603 rfl rfl rfl rfl (by first | exact trivial | omega | (simp; done) | (simp; omega)) (WWord_zero) rfl (by first | exact .inl rfl | exact .inr rfl) rfl ?_
  simp [go_sem, h5]
  apply k8_; clear k8_
  refine Do.ret ?_
  simp [endQ, rets, ret1, go_sem, h5]
  repeat (refine And.intro (by first | omega | (intros; omega) | (intros; exact And.intro (by assumption) (by omega)) | grind) ?_)
  exact TLe.refl _
theorem Ratio_one {f p r : Int} (hf : fmOk f p = true) (hr : 0 ≤ r) (hr' : r ≤ 4) {n : Bool} {m : List Nat} (hm : m.length ≤ 4096) (wm : Ws m) (h0 : 0 < val m) : Does Tryz.prog Gv 122 [Fm f p, .c (.i .i64 r), .c (.b n), Wd m, Wd [1], .c (.i .i64 0)] (.t [(roundP f p r n (val m) 0 false).1.pv, .c (.i .i64 (roundP f p r n (val m) 0 false).2)]) := by
  obtain ⟨b1, b2, b3, b4⟩ := fmOk_spec hf
  obtain ⟨b5, b6⟩ := gOfE_le b1 b2
  have w1 : Ws [1] := fun w hw => by simp at hw; omega
  have hb : bl (val m) ≤ 64 * m.length := bl_le_len wm (Nat.le_refl _)
  have hL := @Len_does Gv m (by unfold Sh; omega) wm
  have hL1 : Does Tryz.prog Gv 62 [Wd [1]] (.int .i64 1) := @Len_does Gv [1] (by decide) w1
  by_cases hs : p + 3 - bl (val m) + 1 > 0
  · obtain ⟨s, hs'⟩ : ∃ s : Nat, p + 3 - bl (val m) + 1 = s := ⟨(p + 3 - bl (val m) + 1).toNat, by omega⟩
    have hS := @Shl_does Gv m (by unfold Sh; omega) wm s (by omega)
    have hpos : 0 < val m * 2 ^ s := Nat.mul_pos h0 (Nat.pow_pos (by decide))
    have hbl : bl (val m * 2 ^ s) = s + bl (val m) := bl_mul_pow _ _ h0
    have hD := @WDivMod_one Gv (nat (val m * 2 ^ s)) (by have := nat_len_bl (val m * 2 ^ s); omega) (nat_ws _) (by rw [val_nat]; exact hpos)
    rw [val_nat] at hD
    have hZ := @Zero_does Gv (nat 0) (by rw [nat_zero]; decide)
    rw [val_nat] at hZ
    have hF := @Float_does f p r hf hr hr' n (val m * 2 ^ s) (0 - (s : Int)) false (by omega) (by omega)
    rw [roundP_scale s h0] at hF
    generalize roundP f p r n (val m) 0 false = z at *
    generalize val m * 2 ^ s = u at *
    rw [Int.zero_sub] at hF
    refine Does.of (nt := 50) Tryz.func122 rfl rfl rfl (by simp) ?_
    simp only [argTm, PV.ext, Ce.ext]
    refine Do.seqk fun _ k1_ => ?_
    refine Do.region [1,2,3,4,5,6,12] true ?_
    simp [go_sem]
    apply k1_; clear k1_
    refine Do.seqk fun _ k2_ => ?_
    refine Do.draw [1,2,3,4,5,6,12,14] true (by kernel_rfl) ?_
    simp [go_sem]
    repeat (refine And.intro (by first | omega | (intros; omega) | (intros; exact And.intro (by assumption) (by omega)) | kernel_rfl | grind) ?_)
    refine DoLD.call true 105 rfl rfl rfl rfl (by first | exact trivial | omega | (simp; done) | (simp; omega)) (hL) rfl (by first | exact .inl rfl | exact .inr rfl) rfl ?_
    simp [go_sem]
    repeat (refine And.intro (by first | omega | (intros; omega) | (intros; exact And.intro (by assumption) (by omega)) | kernel_rfl | grind) ?_)
    refine DoLD.call true 108 rfl rfl rfl rfl (by first | exact trivial | omega | (simp; done) | (simp; omega)) (hL1) rfl (by first | exact .inl rfl | exact .inr rfl) rfl ?_
    simp [go_sem]
    repeat (refine And.intro (by first | omega | (intros; omega) | (intros; exact And.intro (by assumption) (by omega)) | kernel_rfl | grind) ?_)
    try (refine And.intro (by kernel_rfl) ?_)
    apply k2_; clear k2_
    refine Do.seqk fun _ k3_ => ?_
    refine Do.seqk fun _ k4_ => ?_
    refine Do.region [1,2,3,4,5,6,12,14,27] true ?_
    simp [go_sem, hs']
    apply k4_; clear k4_
    refine Do.cond [1,2,3,4,5,6,12,14] rfl (fun g1 => ?_) (fun g1 => ?_) <;> simp [go_sem, hs'] at g1 ⊢
    · refine Do.region [1,2,3,4,5,6,12,14] true ?_
      simp [go_sem, hs']
      refine DoL.call true 303 rfl rfl rfl rfl (by first | exact trivial | omega | (simp; done) | (simp; omega)) (hS) rfl (by first | exact .inl rfl | exact .inr rfl) rfl ?_
      simp [go_sem, hs']
      apply k3_; clear k3_
      refine Do.seqk fun _ k5_ => ?_
      refine Do.region [1,2,5,6,12,14,15,16] true ?_
      simp [go_sem, hs']
      refine DoL.call true 503 rfl rfl rfl rfl (by first | exact trivial | omega | (simp; done) | (simp; omega)) (hD) rfl (by first | exact .inl rfl | exact .inr rfl) rfl ?_
      simp [go_sem, hs']
      apply k5_; clear k5_
      refine Do.seqk fun _ k6_ => ?_
      refine Do.draw [12,13] true (by kernel_rfl) ?_
      simp [go_sem, hs']
      repeat (refine And.intro (by first | omega | (intros; omega) | (intros; exact And.intro (by assumption) (by omega)) | kernel_rfl | grind) ?_)
      refine DoLD.call true 609 rfl rfl rfl rfl (by first | exact trivial | omega | (simp; done) | (simp; omega)) (hZ) rfl (by first | exact .inl rfl | exact .inr rfl) rfl ?_
      simp [go_sem, hs']
      repeat (refine And.intro (by first | omega | (intros; omega) | (intros; exact And.intro (by assumption) (by omega)) | kernel_rfl | grind) ?_)
      refine DoLD.call true 611 rfl rfl rfl rfl (by first | exact trivial | omega | (simp; done) | (simp; omega)) (hF) rfl (by first | exact .inl rfl | exact .inr rfl) rfl ?_
      simp [go_sem, hs']
      repeat (refine And.intro (by first | omega | (intros; omega) | (intros; exact And.intro (by assumption) (by omega)) | kernel_rfl | grind) ?_)
      try (refine And.intro (by kernel_rfl) ?_)
      apply k6_; clear k6_
      refine Do.ret ?_
      simp [endQ, rets, ret1, go_sem, hs']
      repeat (refine And.intro (by first | omega | (intros; omega) | (intros; exact And.intro (by assumption) (by omega)) | grind) ?_)
      exact TLe.refl _
    · omega
  · have hD := @WDivMod_one Gv m (by omega) wm h0
    have hZ := @Zero_does Gv (nat 0) (by rw [nat_zero]; decide)
    rw [val_nat] at hZ
    have hF := @Float_does f p r hf hr hr' n (val m) 0 false (by omega) (by omega)
    generalize roundP f p r n (val m) 0 false = z at *
    generalize hv : val m = v at *
    refine Does.of (nt := 50) Tryz.func122 rfl rfl rfl (by simp) ?_
    simp only [argTm, PV.ext, Ce.ext]
    refine Do.seqk fun _ k1_ => ?_
    refine Do.region [1,2,3,4,5,6,12] true ?_
    simp [go_sem]
    apply k1_; clear k1_
    refine Do.seqk fun _ k2_ => ?_
    refine Do.draw [1,2,3,4,5,6,12,14] true (by kernel_rfl) ?_
    simp [go_sem]
    repeat (refine And.intro (by first | omega | (intros; omega) | (intros; exact And.intro (by assumption) (by omega)) | kernel_rfl | grind) ?_)
    refine DoLD.call true 105 rfl rfl rfl rfl (by first | exact trivial | omega | (simp; done) | (simp; omega)) (hL) rfl (by first | exact .inl rfl | exact .inr rfl) rfl ?_
    simp [go_sem]
    repeat (refine And.intro (by first | omega | (intros; omega) | (intros; exact And.intro (by assumption) (by omega)) | kernel_rfl | grind) ?_)
    refine DoLD.call true 108 rfl rfl rfl rfl (by first | exact trivial | omega | (simp; done) | (simp; omega)) (hL1) rfl (by first | exact .inl rfl | exact .inr rfl) rfl ?_
    simp [go_sem]
    repeat (refine And.intro (by first | omega | (intros; omega) | (intros; exact And.intro (by assumption) (by omega)) | kernel_rfl | grind) ?_)
    try (refine And.intro (by kernel_rfl) ?_)
    apply k2_; clear k2_
    refine Do.seqk fun _ k3_ => ?_
    refine Do.seqk fun _ k4_ => ?_
    refine Do.region [1,2,3,4,5,6,12,14,27] true ?_
    simp [go_sem]
    apply k4_; clear k4_
    refine Do.cond [1,2,3,4,5,6,12,14] rfl (fun g1 => ?_) (fun g1 => ?_) <;> simp [go_sem] at g1 ⊢
    · exact absurd g1 (by omega)
    · refine Do.region [1,2,3,4,5,6,12,14] true ?_
      simp [go_sem]
      apply k3_; clear k3_
      refine Do.seqk fun _ k5_ => ?_
      refine Do.region [1,2,5,6,12,14,15,16] true ?_
      simp [go_sem]
      refine DoL.call true 503 rfl rfl rfl rfl (by first | exact trivial | omega | (simp; done) | (simp; omega)) (hD) rfl (by first | exact .inl rfl | exact .inr rfl) rfl ?_
      simp [go_sem]
      apply k5_; clear k5_
      refine Do.seqk fun _ k6_ => ?_
      refine Do.draw [12,13] true (by kernel_rfl) ?_
      simp [go_sem]
      repeat (refine And.intro (by first | omega | (intros; omega) | (intros; exact And.intro (by assumption) (by omega)) | kernel_rfl | grind) ?_)
      refine DoLD.call true 609 rfl rfl rfl rfl (by first | exact trivial | omega | (simp; done) | (simp; omega)) (hZ) rfl (by first | exact .inl rfl | exact .inr rfl) rfl ?_
      simp [go_sem]
      repeat (refine And.intro (by first | omega | (intros; omega) | (intros; exact And.intro (by assumption) (by omega)) | kernel_rfl | grind) ?_)
      refine DoLD.call true 611 rfl rfl rfl rfl (by first | exact trivial | omega | (simp; done) | (simp; omega)) (hF) rfl (by first | exact .inl rfl | exact .inr rfl) rfl ?_
      simp [go_sem]
      repeat (refine And.intro (by first | omega | (intros; omega) | (intros; exact And.intro (by assumption) (by omega)) | kernel_rfl | grind) ?_)
      try (refine And.intro (by kernel_rfl) ?_)
      apply k6_; clear k6_
      refine Do.ret ?_
      simp [endQ, rets, ret1, go_sem]
      repeat (refine And.intro (by first | omega | (intros; omega) | (intros; exact And.intro (by assumption) (by omega)) | grind) ?_)
      exact TLe.refl _
end Go.Proofs.YtokgalpflooegaaGreatDoor
/- Conversions, plain. No condition. -/
namespace Go.Proofs.YtokgalpflooegaaGreatDoor
set_option linter.unusedVariables false
set_option linter.unusedSimpArgs false
set_option maxHeartbeats 4000000
set_option maxRecDepth 10000
/-- The error of a conversion's arguments. -/
def argsC (f p g q r : Int) (b : Bool) (x : Fla) : Int :=
  if 4096 < x.m.length then 2 else if (decide (0 ≤ r) && decide (r ≤ 4) && !b) = false then 1 else if fmOk f p = false ∨ fmOk g q = false then 150 else if (holdsP f p x.flt).2 = false then 151 else 0
theorem argsC_same (f p r : Int) (b : Bool) (x : Fla) : argsC f p f p r b x = argsE f p r b [x] := by
  unfold argsC argsE
  simp [anyLarge, allHold]
theorem argsC_zero {f p g q r : Int} {b : Bool} {x : Fla} (h : argsC f p g q r b x = 0) : x.m.length ≤ 4096 ∧ 0 ≤ r ∧ r ≤ 4 ∧ b = false ∧ fmOk f p = true ∧ fmOk g q = true ∧ (holdsP f p x.flt).2 = true := by
  unfold argsC at h
  by_cases h1 : 4096 < x.m.length
  · simp [h1] at h
  · cases h2 : (decide (0 ≤ r) && decide (r ≤ 4) && !b) <;> cases h3 : fmOk f p <;> cases h4 : fmOk g q <;> cases h5 : (holdsP f p x.flt).2 <;> simp [h1, h2, h3, h4, h5] at h
    simp only [Bool.and_eq_true, decide_eq_true_eq, Bool.not_eq_true'] at h2
    exact ⟨by omega, h2.1.1, h2.1.2, h2.2, rfl, rfl, rfl⟩
/-- A float, rounded to a format. -/
def convA (g q r : Int) (a : Flt) : Flt × Int := if a.k = 1 then (Nu.mk a.n a.v a.e).round g q r false else (a, 0)
def convP (f p g q r : Int) (x : Fla) : Flt × Int × Int :=
  if argsC f p g q r false x = 0 then ((convA g q r (holdsP f p x.flt).1).1, (convA g q r (holdsP f p x.flt).1).2, 0) else (⟨0, false, 0, 0⟩, 0, argsC f p g q r false x)
/-- Is every float of a format one of another? -/
def fitP (f p g q : Int) : Bool := decide (p ≤ q) && decide (gOfE f ≤ gOfE g) && decide (1 - gOfE g - (q - 1) ≤ 1 - gOfE f - (p - 1))
theorem held_fin20 {f p : Int} {x : Flt} (h : (holdsP f p x).2 = true) (hk : (holdsP f p x).1.k = 1) : (bl (holdsP f p x).1.v : Int) ≤ p ∧ 1 - gOfE f - (p - 1) ≤ (holdsP f p x).1.e ∧ (holdsP f p x).1.e + bl (holdsP f p x).1.v ≤ gOfE f + 1 := by
  unfold holdsP at *
  split at h
  · rename_i hc
    rw [if_pos hc] at hk
    rcases hc with hc | hc
    · rw [h] at hc; cases hc
    · exact absurd hk hc
  · rename_i hc
    rw [if_neg hc]
    simp only [Bool.and_eq_true, decide_eq_true_eq] at h
    simp only []
    omega
theorem canon_rc {x : Flt} (h : (canon x).2 = true) : (canon (rcanon x)).2 = true := by
  have hk := (canon_kind h).1
  by_cases h1 : x.k = 1
  · have hb := canon_one h h1
    have e1 : rcanon x = ⟨1, x.n, x.e + tz x.v, x.v / 2 ^ tz x.v⟩ := by simp [rcanon, h1]
    have hd : x.v / 2 ^ tz x.v ≠ 0 := by
      obtain ⟨m, hm⟩ := tz_form (show 0 < x.v by omega)
      have : x.v / 2 ^ tz x.v = 2 * m + 1 := by
        conv => lhs; arg 1; rw [hm]
        exact Nat.mul_div_cancel_left _ (Nat.pow_pos (by decide))
      omega
    rw [e1]
    unfold canon
    simp only []
    rw [if_neg (by omega), if_neg (by omega), if_pos trivial, if_neg (by omega)]
    simp [tz_rest (show 0 < x.v by omega)]; omega
  · have e1 : rcanon x = ⟨x.k, x.n, 0, 0⟩ := by simp [rcanon, h1]
    rw [e1]
    unfold canon
    simp only []
    rcases hk with hk | hk | hk | hk
    · rw [if_pos (by omega)]; simp
    · exact absurd hk h1
    · rw [if_pos (by omega)]; simp
    · rw [if_neg (by omega), if_pos hk]; simp [(canon_kind h).2 hk]
/-- What is held: its canonical form is itself. -/
theorem held_canon {f p : Int} {x : Flt} (h : (holdsP f p x).2 = true) : canon (holdsP f p x).1 = ((holdsP f p x).1, true) := by
  have hr := held_rcanon h
  have h2 : (canon (holdsP f p x).1).2 = true := by
    rw [← hr.1]
    exact canon_rc hr.2
  have h4 : (canon (holdsP f p x).1).1 = (holdsP f p x).1 := by
    rw [← rcanon_good h2, ← hr.1]; exact rcanon_idem _
  exact Prod.ext h4 h2
theorem held_pos {f p : Int} {x : Flt} (h : (holdsP f p x).2 = true) (hk : (holdsP f p x).1.k = 1) : (holdsP f p x).1.v ≠ 0 := by
  have hc := held_canon h
  exact (canon_one (by rw [hc]) hk).2.2
end Go.Proofs.YtokgalpflooegaaGreatDoor
/- The integer part of a number; the arguments of conversions. No condition. -/
namespace Go.Proofs.YtokgalpflooegaaGreatDoor
set_option linter.unusedVariables false
set_option linter.unusedSimpArgs false
set_option maxHeartbeats 4000000
set_option maxRecDepth 10000
/-- A number, rounded to an integer, and whether it is one. -/
def wholeP (r : Int) (x : Nu) : Nat × Bool := (upP r x.n (cutP x.v (-x.e) false).1 (cutP x.v (-x.e) false).2, decide ((cutP x.v (-x.e) false).2 = 0))
theorem sgn_neg (n : Bool) (v : Nat) : (n && decide (0 < ((nat v).length : Int))) = decide (sgn n v < 0) := by
  have h : 0 < (nat v).length ↔ v ≠ 0 := nat_len_zero v
  cases n
  · simp [sgn]
  · simp only [Bool.true_and, sgn, if_true]
    congr 1
    apply propext
    constructor
    · intro h1
      have := h.1 (by omega)
      omega
    · intro h1
      have := h.2 (by omega)
      omega
theorem PLe.iv20 {n : Bool} {v : Nat} {c : Ce} {b : Bool} (hb : b = decide (sgn n v < 0)) (h : PLe (.c c) (.c (.w false (nat v)))) : PLe (.a [.b b, c]) (Iv (sgn n v)) := by
  subst hb
  show PLe _ (Ig (decide (sgn n v < 0)) (nat (sgn n v).natAbs))
  rw [sgn_abs]
  exact PLe.agg (.cons (PLe.refl _) (.cons h .nil))
theorem WholeN_does {r : Int} (hr : 0 ≤ r) (hr' : r ≤ 4) {x : Nu} (hx : x.Ok) : Does Tryz.prog Gv 80 [x.pv, .c (.i .i64 r)] (.t [Iv (sgn x.n (wholeP r x).1), .c (.b (wholeP r x).2)]) := by
  obtain ⟨n, v, e⟩ := x
  have hl := hx.len
  obtain ⟨h1, h2⟩ := hx
  simp only [] at h1 h2 hl
  unfold wholeP
  simp only []
  have hc := @cut_does (nat v) (-e) false (by omega) (nat_ws _) (by omega) (by omega)
  have hcl := cutP_bl v (-e) false
  rw [val_nat] at hc
  generalize cutP v (-e) false = c at *
  obtain ⟨c1, c2⟩ := c
  simp only [] at hc hcl
  have hlc := nat_len_bl c1
  have hu := @up_does r n (nat c1) c2 hr hr' (by omega) (nat_ws _)
  rw [val_nat] at hu
  simp only []
  generalize upP r n c1 c2 = u at *
  have hs := sgn_neg n u
  refine Does.of (nt := 34) Tryz.func80 rfl rfl rfl (by simp) ?_
  simp only [argTm, PV.ext, Ce.ext]
  refine Do.seqk fun _ k1_ => ?_
  refine Do.region [1,2,4] true ?_
  simp [go_sem]
  apply k1_; clear k1_
  refine Do.seqk fun _ k2_ => ?_
  refine Do.region [1,2,4,6,7] true ?_
  simp [go_sem]
  repeat (refine And.intro (by first | omega | (intros; omega) | (intros; exact And.intro (by assumption) (by omega)) | grind) ?_)
  refine DoL.call true 106 rfl rfl rfl rfl (by first | exact trivial | omega | (simp; done) | (simp; omega)) (hc) rfl (by first | exact .inl rfl | exact .inr rfl) rfl ?_
  simp [go_sem]
  apply k2_; clear k2_
  refine Do.seqk fun _ k3_ => ?_
  refine Do.region [2,4,6,7] true ?_
  simp [go_sem]
  repeat (refine And.intro (by first | omega | (intros; omega) | (intros; exact And.intro (by assumption) (by omega)) | grind) ?_)
  refine DoL.call true 206 rfl rfl rfl rfl (by first | exact trivial | omega | (simp; done) | (simp; omega)) (hu) rfl (by first | exact .inl rfl | exact .inr rfl) rfl ?_
  simp [go_sem]
  apply k3_; clear k3_
  refine Do.seqk fun _ k4_ => ?_
  refine Do.region [4,5] true ?_
  simp [go_sem]
  repeat (refine And.intro (by first | omega | (intros; omega) | (intros; exact And.intro (by assumption) (by omega)) | grind) ?_)
  apply k4_; clear k4_
  refine Do.ret ?_
  simp [endQ, rets, ret1, go_sem]
  repeat (refine And.intro (by first | omega | (intros; omega) | (intros; exact And.intro (by assumption) (by omega)) | grind) ?_)
  exact TLe.t (.cons (PLe.iv20 (by simpa using hs) (by first | exact PLe.refl _ | exact PLe.ext (.c (.w true _)))) (.cons (PLe.refl _) .nil))
theorem cargs_does {f p g q r : Int} {b : Bool} {x : Fla} (hx : x.Ok) : Does Tryz.prog Gv 47 [Fm f p, Fm g q, .c (.i .i64 r), .c (.b b), Fl x.k x.n x.e x.m] (.t [(if argsC f p g q r b x = 0 then (holdsP f p x.flt).1 else ⟨0, false, 0, 0⟩).pv, .c (.i .i64 (argsC f p g q r b x))]) := by
  have hsh := hx.sh
  by_cases he : argsC f p g q r b x = 0
  · obtain ⟨h1, h2, h3, h4, h5, h6, h7⟩ := argsC_zero he
    rw [if_pos he, he]
    have hO : DoesO Tryz.prog Gv 99 [Fm f p, .s false [x.cs]] 4 [(holdsP f p x.flt).1.cs] [.c (.i .i64 0)] := @Floats_own f p [x] (by simp) (by simpa using h1) h5 (by simpa using hx) (by simpa [allHold] using h7)
    generalize (holdsP f p x.flt).1 = a at *
    have hc1 : Does Tryz.prog Gv 110 [Fm f p] (.v (.c (.i .i64 0))) := by have := @Check_does Gv f p; rwa [if_pos h5] at this
    have hc2 : Does Tryz.prog Gv 110 [Fm g q] (.v (.c (.i .i64 0))) := by have := @Check_does Gv g q; rwa [if_pos h6] at this
    have hR : Does Tryz.prog Gv 109 [.c (.i .i64 r)] (.v (.c (.b true))) := by have := @Right_does Gv r; rwa [show (decide (0 ≤ r) && decide (r ≤ 4)) = true by simp; omega] at this
    subst h4
    refine Does.of (nt := 52) Tryz.func47 rfl rfl rfl (by simp) ?_
    simp only [argTm, PV.ext, Ce.ext]
    refine Do.seqk fun _ k1_ => ?_
    refine Do.region [2,3,5,6,9,10] true ?_
    simp [go_sem]
    apply k1_; clear k1_
    refine Do.seqk fun _ k2_ => ?_
    refine Do.block ?_
    refine Do.seqk fun _ k3_ => ?_
    refine Do.region [2,3,5,6,9,10,14] true ?_
    simp [go_sem]
    repeat (refine And.intro (by first | omega | (intros; omega) | (intros; exact And.intro (by assumption) (by omega)) | grind) ?_)
    apply k3_; clear k3_
    refine Do.cond [2,3,5,6,9,10] rfl (fun g1 => ?_) (fun g1 => ?_) <;> simp [go_sem] at g1 ⊢
    · omega
    · refine Do.seqk fun _ k4_ => ?_
      refine Do.region [5,6,9,10,20] true ?_
      simp [go_sem]
      refine DoL.call true 302 rfl rfl rfl rfl (by first | exact trivial | omega | (simp; done) | (simp; omega)) (hR) rfl (by first | exact .inl rfl | exact .inr rfl) rfl ?_
      simp [go_sem]
      repeat (refine And.intro (by first | omega | (intros; omega) | (intros; exact And.intro (by assumption) (by omega)) | grind) ?_)
      apply k4_; clear k4_
      refine Do.cond [5,6,9,10] rfl (fun g2 => ?_) (fun g2 => ?_) <;> simp [go_sem] at g2 ⊢
      refine Do.seqk fun _ k5_ => ?_
      refine Do.region [5,9,10,28] true ?_
      simp [go_sem]
      repeat (refine And.intro (by first | omega | (intros; omega) | (intros; exact And.intro (by assumption) (by omega)) | grind) ?_)
      refine DoL.call true 502 rfl rfl rfl rfl (by first | exact trivial | omega | (simp; done) | (simp; omega)) (hc1) rfl (by first | exact .inl rfl | exact .inr rfl) rfl ?_
      simp [go_sem]
      repeat (refine And.intro (by first | omega | (intros; omega) | (intros; exact And.intro (by assumption) (by omega)) | grind) ?_)
      refine DoL.callg true 506 rfl rfl rfl rfl rfl (by simp [go_sem] <;> omega) (fun _ => hc2) rfl (by first | exact .inl rfl | exact .inr rfl) rfl ?_
      simp [go_sem]
      apply k5_; clear k5_
      refine Do.cond [5,9,10] rfl (fun g3 => ?_) (fun g3 => ?_) <;> simp [go_sem] at g3 ⊢
      refine Do.skip ?_
      simp [go_sem]
      apply k2_; clear k2_
      refine Do.seqk fun _ k6_ => ?_
      refine Do.region [10,12,13] true ?_
      simp [go_sem]
      repeat (refine And.intro (by first | omega | (intros; omega) | (intros; exact And.intro (by assumption) (by omega)) | grind) ?_)
      refine DoL.sealS true 703 702 rfl ?_
      simp [go_sem]
      refine DoL.callO true 704 3000 rfl rfl rfl rfl (by first | exact trivial | omega | (simp; done) | (simp; omega)) (hO) rfl rfl rfl ?_
      simp [go_sem]
      apply k6_; clear k6_
      refine Do.seqk fun _ k7_ => ?_
      refine Do.seqk fun _ k8_ => ?_
      refine Do.region [10,12,13,46] true ?_
      simp [go_sem]
      apply k8_; clear k8_
      refine Do.cond [10,12,13] rfl (fun g4 => ?_) (fun g4 => ?_) <;> simp [go_sem] at g4 ⊢
      refine Do.skip ?_
      simp [go_sem]
      apply k7_; clear k7_
      refine Do.seqk fun _ k9_ => ?_
      refine Do.region [10,11] true ?_
      simp [go_sem]
      repeat (refine And.intro (by first | omega | (intros; omega) | (intros; exact And.intro (by assumption) (by omega)) | grind) ?_)
      apply k9_; clear k9_
      refine Do.ret ?_
      simp [endQ, rets, ret1, go_sem]
      repeat (refine And.intro (by first | omega | (intros; omega) | (intros; exact And.intro (by assumption) (by omega)) | grind) ?_)
      exact TLe.refl _
  · rw [if_neg he]
    have hc1 := @Check_does Gv f p
    have hc2 := @Check_does Gv g q
    have hR := @Right_does Gv r
    have hz : argsC f p g q r b x = argsC f p g q r b x := rfl
    conv at hz => rhs; unfold argsC
    have hF : x.m.length ≤ 4096 → fmOk f p = true → (holdsP f p x.flt).2 = false → Does Tryz.prog Gv 99 [Fm f p, .s false [x.cs]] (.t [.c .z, .c (.i .i64 151)]) := fun a1 a2 a3 => (@Floats_fine f p [x] (by simp) (by simpa using a1) (by simpa using hx)).2 a2 (by simpa [allHold] using a3)
    generalize argsC f p g q r b x = z at *
    by_cases g1 : 4096 < x.m.length
    · rw [if_pos g1] at hz
      subst hz
      refine Does.of (nt := 52) Tryz.func47 rfl rfl rfl (by simp) ?_
      simp only [argTm, PV.ext, Ce.ext]
      refine Do.seqk fun _ k1_ => ?_
      refine Do.region [2,3,5,6,9,10] true ?_
      simp [go_sem]
      apply k1_; clear k1_
      refine Do.seqk fun _ k2_ => ?_
      refine Do.block ?_
      refine Do.seqk fun _ k3_ => ?_
      refine Do.region [2,3,5,6,9,10,14] true ?_
      simp [go_sem]
      repeat (refine And.intro (by first | omega | (intros; omega) | (intros; exact And.intro (by assumption) (by omega)) | grind) ?_)
      apply k3_; clear k3_
      refine Do.cond [2,3,5,6,9,10] rfl (fun g2 => ?_) (fun g2 => ?_) <;> simp [go_sem] at g2 ⊢
      · refine Do.seqk fun _ k4_ => ?_
        refine Do.region [10,11] true ?_
        simp [go_sem]
        repeat (refine And.intro (by first | omega | (intros; omega) | (intros; exact And.intro (by assumption) (by omega)) | grind) ?_)
        apply k4_; clear k4_
        refine Do.ret ?_
        simp [endQ, rets, ret1, go_sem]
        repeat (refine And.intro (by first | omega | (intros; omega) | (intros; exact And.intro (by assumption) (by omega)) | grind) ?_)
        exact TLe.t (.cons (PLe.flt (ret_z rfl)) (.cons (PLe.refl _) .nil))
      · omega
    · rw [if_neg g1] at hz
      cases g2 : (decide (0 ≤ r) && decide (r ≤ 4) && !b) with
      | false =>
        rw [if_pos g2] at hz
        subst hz
        generalize (decide (0 ≤ r) && decide (r ≤ 4)) = rr at *
        have g3 : (!rr || b) = true := by cases rr <;> cases b <;> simp_all
        refine Does.of (nt := 52) Tryz.func47 rfl rfl rfl (by simp) ?_
        simp only [argTm, PV.ext, Ce.ext]
        refine Do.seqk fun _ k1_ => ?_
        refine Do.region [2,3,5,6,9,10] true ?_
        simp [go_sem]
        apply k1_; clear k1_
        refine Do.seqk fun _ k2_ => ?_
        refine Do.block ?_
        refine Do.seqk fun _ k3_ => ?_
        refine Do.region [2,3,5,6,9,10,14] true ?_
        simp [go_sem]
        repeat (refine And.intro (by first | omega | (intros; omega) | (intros; exact And.intro (by assumption) (by omega)) | grind) ?_)
        apply k3_; clear k3_
        refine Do.cond [2,3,5,6,9,10] rfl (fun g4 => ?_) (fun g4 => ?_) <;> simp [go_sem] at g4 ⊢
        · omega
        · refine Do.seqk fun _ k4_ => ?_
          refine Do.region [5,6,9,10,20] true ?_
          simp [go_sem]
          refine DoL.call true 302 rfl rfl rfl rfl (by first | exact trivial | omega | (simp; done) | (simp; omega)) (hR) rfl (by first | exact .inl rfl | exact .inr rfl) rfl ?_
          simp [go_sem]
          repeat (refine And.intro (by first | omega | (intros; omega) | (intros; exact And.intro (by assumption) (by omega)) | grind) ?_)
          apply k4_; clear k4_
          refine Do.cond [5,6,9,10] rfl (fun g5 => ?_) (fun g5 => ?_) <;> simp [go_sem, g3] at g5 ⊢
          refine Do.seqk fun _ k5_ => ?_
          refine Do.region [10,11] true ?_
          simp [go_sem, g3]
          repeat (refine And.intro (by first | omega | (intros; omega) | (intros; exact And.intro (by assumption) (by omega)) | grind) ?_)
          apply k5_; clear k5_
          refine Do.ret ?_
          simp [endQ, rets, ret1, go_sem, g3]
          repeat (refine And.intro (by first | omega | (intros; omega) | (intros; exact And.intro (by assumption) (by omega)) | grind) ?_)
          exact TLe.t (.cons (PLe.flt (ret_z rfl)) (.cons (PLe.refl _) .nil))
      | true =>
        rw [if_neg (by simp [g2])] at hz
        generalize (decide (0 ≤ r) && decide (r ≤ 4)) = rr at *
        have g3 : (!rr || b) = false := by cases rr <;> cases b <;> simp_all
        by_cases g6 : fmOk f p = false ∨ fmOk g q = false
        · rw [if_pos g6] at hz
          subst hz
          refine Does.of (nt := 52) Tryz.func47 rfl rfl rfl (by simp) ?_
          simp only [argTm, PV.ext, Ce.ext]
          refine Do.seqk fun _ k1_ => ?_
          refine Do.region [2,3,5,6,9,10] true ?_
          simp [go_sem]
          apply k1_; clear k1_
          refine Do.seqk fun _ k2_ => ?_
          refine Do.block ?_
          refine Do.seqk fun _ k3_ => ?_
          refine Do.region [2,3,5,6,9,10,14] true ?_
          simp [go_sem]
          repeat (refine And.intro (by first | omega | (intros; omega) | (intros; exact And.intro (by assumption) (by omega)) | grind) ?_)
          apply k3_; clear k3_
          refine Do.cond [2,3,5,6,9,10] rfl (fun g4 => ?_) (fun g4 => ?_) <;> simp [go_sem] at g4 ⊢
          · omega
          · refine Do.seqk fun _ k4_ => ?_
            refine Do.region [5,6,9,10,20] true ?_
            simp [go_sem]
            refine DoL.call true 302 rfl rfl rfl rfl (by first | exact trivial | omega | (simp; done) | (simp; omega)) (hR) rfl (by first | exact .inl rfl | exact .inr rfl) rfl ?_
            simp [go_sem]
            repeat (refine And.intro (by first | omega | (intros; omega) | (intros; exact And.intro (by assumption) (by omega)) | grind) ?_)
            apply k4_; clear k4_
            refine Do.cond [5,6,9,10] rfl (fun g5 => ?_) (fun g5 => ?_) <;> simp [go_sem, g3] at g5 ⊢
            refine Do.seqk fun _ k5_ => ?_
            refine Do.region [5,9,10,28] true ?_
            simp [go_sem, g3]
            repeat (refine And.intro (by first | omega | (intros; omega) | (intros; exact And.intro (by assumption) (by omega)) | grind) ?_)
            refine DoL.call true 502 rfl rfl rfl rfl (by first | exact trivial | omega | (simp; done) | (simp; omega)) (hc1) rfl (by first | exact .inl rfl | exact .inr rfl) rfl ?_
            simp [go_sem, g3]
            repeat (refine And.intro (by first | omega | (intros; omega) | (intros; exact And.intro (by assumption) (by omega)) | grind) ?_)
            refine DoL.callg true 506 rfl rfl rfl rfl rfl (by simp [go_sem] <;> omega) (fun _ => hc2) rfl (by first | exact .inl rfl | exact .inr rfl) rfl ?_
            simp [go_sem, g3]
            apply k5_; clear k5_
            refine Do.cond [5,9,10] rfl (fun g7 => ?_) (fun g7 => ?_) <;> simp [go_sem, g3] at g7 ⊢
            · refine Do.seqk fun _ k6_ => ?_
              refine Do.region [10,11] true ?_
              simp [go_sem, g3]
              repeat (refine And.intro (by first | omega | (intros; omega) | (intros; exact And.intro (by assumption) (by omega)) | grind) ?_)
              apply k6_; clear k6_
              refine Do.ret ?_
              simp [endQ, rets, ret1, go_sem, g3]
              repeat (refine And.intro (by first | omega | (intros; omega) | (intros; exact And.intro (by assumption) (by omega)) | grind) ?_)
              exact TLe.t (.cons (PLe.flt (ret_z rfl)) (.cons (PLe.refl _) .nil))
            · rcases g6 with g6 | g6 <;> simp [g6] at g7
        · rw [if_neg g6] at hz
          simp only [not_or, Bool.not_eq_false] at g6
          obtain ⟨g7, g8⟩ := g6
          rw [if_pos g7] at hc1
          rw [if_pos g8] at hc2
          cases g9 : (holdsP f p x.flt).2 with
          | true => rw [if_neg (by simp [g9])] at hz; exact absurd hz he
          | false =>
            rw [if_pos g9] at hz
            subst hz
            have hF := hF (by omega) g7 g9
            refine Does.of (nt := 52) Tryz.func47 rfl rfl rfl (by simp) ?_
            simp only [argTm, PV.ext, Ce.ext]
            refine Do.seqk fun _ k1_ => ?_
            refine Do.region [2,3,5,6,9,10] true ?_
            simp [go_sem]
            apply k1_; clear k1_
            refine Do.seqk fun _ k2_ => ?_
            refine Do.block ?_
            refine Do.seqk fun _ k3_ => ?_
            refine Do.region [2,3,5,6,9,10,14] true ?_
            simp [go_sem]
            repeat (refine And.intro (by first | omega | (intros; omega) | (intros; exact And.intro (by assumption) (by omega)) | grind) ?_)
            apply k3_; clear k3_
            refine Do.cond [2,3,5,6,9,10] rfl (fun g4 => ?_) (fun g4 => ?_) <;> simp [go_sem] at g4 ⊢
            · omega
            · refine Do.seqk fun _ k4_ => ?_
              refine Do.region [5,6,9,10,20] true ?_
              simp [go_sem]
              refine DoL.call true 302 rfl rfl rfl rfl (by first | exact trivial | omega | (simp; done) | (simp; omega)) (hR) rfl (by first | exact .inl rfl | exact .inr rfl) rfl ?_
              simp [go_sem]
              repeat (refine And.intro (by first | omega | (intros; omega) | (intros; exact And.intro (by assumption) (by omega)) | grind) ?_)
              apply k4_; clear k4_
              refine Do.cond [5,6,9,10] rfl (fun g5 => ?_) (fun g5 => ?_) <;> simp [go_sem, g3] at g5 ⊢
              refine Do.seqk fun _ k5_ => ?_
              refine Do.region [5,9,10,28] true ?_
              simp [go_sem, g3]
              repeat (refine And.intro (by first | omega | (intros; omega) | (intros; exact And.intro (by assumption) (by omega)) | grind) ?_)
              refine DoL.call true 502 rfl rfl rfl rfl (by first | exact trivial | omega | (simp; done) | (simp; omega)) (hc1) rfl (by first | exact .inl rfl | exact .inr rfl) rfl ?_
              simp [go_sem, g3]
              repeat (refine And.intro (by first | omega | (intros; omega) | (intros; exact And.intro (by assumption) (by omega)) | grind) ?_)
              refine DoL.callg true 506 rfl rfl rfl rfl rfl (by simp [go_sem] <;> omega) (fun _ => hc2) rfl (by first | exact .inl rfl | exact .inr rfl) rfl ?_
              simp [go_sem, g3]
              apply k5_; clear k5_
              refine Do.cond [5,9,10] rfl (fun g10 => ?_) (fun g10 => ?_) <;> simp [go_sem, g3] at g10 ⊢
              refine Do.skip ?_
              simp [go_sem]
              apply k2_; clear k2_
              refine Do.seqk fun _ k6_ => ?_
              refine Do.region [10,12,13] true ?_
              simp [go_sem, g3]
              repeat (refine And.intro (by first | omega | (intros; omega) | (intros; exact And.intro (by assumption) (by omega)) | grind) ?_)
              refine DoL.sealS true 703 702 rfl ?_
              simp [go_sem]
              refine DoL.call true 704 rfl rfl rfl rfl (by first | exact trivial | omega | (simp; done) | (simp; omega)) (hF) rfl (by first | exact .inl rfl | exact .inr rfl) rfl ?_
              simp [go_sem, g3]
              apply k6_; clear k6_
              refine Do.seqk fun _ k7_ => ?_
              refine Do.seqk fun _ k8_ => ?_
              refine Do.region [10,12,13,46] true ?_
              simp [go_sem, g3]
              apply k8_; clear k8_
              refine Do.cond [10,12,13] rfl (fun g11 => ?_) (fun g11 => ?_) <;> simp [go_sem, g3] at g11 ⊢
              refine Do.seqk fun _ k9_ => ?_
              refine Do.region [10,11] true ?_
              simp [go_sem, g3]
              repeat (refine And.intro (by first | omega | (intros; omega) | (intros; exact And.intro (by assumption) (by omega)) | grind) ?_)
              apply k9_; clear k9_
              refine Do.ret ?_
              simp [endQ, rets, ret1, go_sem, g3]
              repeat (refine And.intro (by first | omega | (intros; omega) | (intros; exact And.intro (by assumption) (by omega)) | grind) ?_)
              exact TLe.t (.cons (PLe.flt (ret_z rfl)) (.cons (PLe.refl _) .nil))
theorem number_does20 {k : Int} {n : Bool} {e : Int} {m : List Nat} : Does Tryz.prog Gv 79 [Fl k n e m] (.v (.c (.b (decide (k = 1) || decide (k = 0))))) := by
  refine Does.of (nt := 11) Tryz.func79 rfl rfl rfl (by simp) ?_
  simp only [argTm, PV.ext, Ce.ext]
  refine Do.seqk fun _ k1_ => ?_
  refine Do.region [1] true ?_
  simp [go_sem]
  apply k1_; clear k1_
  refine Do.seqk fun _ k2_ => ?_
  refine Do.region [2] true ?_
  simp [go_sem]
  repeat (refine And.intro (by first | omega | (intros; omega) | (intros; exact And.intro (by assumption) (by omega)) | grind) ?_)
  apply k2_; clear k2_
  refine Do.ret ?_
  simp [endQ, rets, ret1, go_sem]
  repeat (refine And.intro (by first | omega | (intros; omega) | (intros; exact And.intro (by assumption) (by omega)) | grind) ?_)
  exact TLe.refl _
theorem flag_does20 {b : Bool} : Does Tryz.prog Gv 81 [.c (.b b)] (.v (.c (.i .i64 (if b then 0 else 1)))) := by
  cases b
  · skip
    refine Does.of (nt := 4) Tryz.func81 rfl rfl rfl (by simp) ?_
    simp only [argTm, PV.ext, Ce.ext]
    refine Do.seqk fun _ k1_ => ?_
    refine Do.region [0] true ?_
    simp [go_sem]
    apply k1_; clear k1_
    refine Do.seqk fun _ k2_ => ?_
    refine Do.seqk fun _ k3_ => ?_
    refine Do.region [3] true ?_
    simp [go_sem]
    apply k3_; clear k3_
    refine Do.cond [] rfl (fun h => ?_) (fun h => ?_) <;> simp [go_sem] at h ⊢
    refine Do.skip ?_
    simp [go_sem]
    apply k2_; clear k2_
    refine Do.seqk fun _ k4_ => ?_
    refine Do.region [2] true ?_
    simp [go_sem]
    apply k4_; clear k4_
    refine Do.ret ?_
    simp [endQ, rets, ret1, go_sem]
    repeat (refine And.intro (by first | omega | (intros; omega) | (intros; exact And.intro (by assumption) (by omega)) | grind) ?_)
    exact TLe.refl _
  · skip
    refine Does.of (nt := 4) Tryz.func81 rfl rfl rfl (by simp) ?_
    simp only [argTm, PV.ext, Ce.ext]
    refine Do.seqk fun _ k1_ => ?_
    refine Do.region [0] true ?_
    simp [go_sem]
    apply k1_; clear k1_
    refine Do.seqk fun _ k2_ => ?_
    refine Do.seqk fun _ k3_ => ?_
    refine Do.region [3] true ?_
    simp [go_sem]
    apply k3_; clear k3_
    refine Do.cond [] rfl (fun h => ?_) (fun h => ?_) <;> simp [go_sem] at h ⊢
    refine Do.seqk fun _ k4_ => ?_
    refine Do.region [2] true ?_
    simp [go_sem]
    apply k4_; clear k4_
    refine Do.ret ?_
    simp [endQ, rets, ret1, go_sem]
    repeat (refine And.intro (by first | omega | (intros; omega) | (intros; exact And.intro (by assumption) (by omega)) | grind) ?_)
    exact TLe.refl _
theorem Convert_does {f p g q r : Int} {x : Fla} (hx : x.Ok) : Does Tryz.prog Gv 12 [Fm f p, Fm g q, .c (.i .i64 r), Fl x.k x.n x.e x.m] (Res (convP f p g q r x)) := by
  have hA := @cargs_does f p g q r false x hx
  unfold convP
  by_cases he : argsC f p g q r false x = 0
  · obtain ⟨h1, h2, h3, h4, h5, h6, h7⟩ := argsC_zero he
    rw [if_pos he, he] at hA
    rw [if_pos he]
    have hb := holdsP_bound h5 h7
    generalize (holdsP f p x.flt).1 = a at *
    have hF := fun (ok : (Nu.mk a.n a.v a.e).Ok) => @NFloat_does g q r h6 h2 h3 (Nu.mk a.n a.v a.e) false ok
    unfold convA
    by_cases hk : a.k = 1
    · rw [if_pos hk]
      have hF := hF ⟨(hb hk).1, by have := (hb hk).2; show a.e + bl a.v ≤ 4194304; omega⟩
      generalize (Nu.mk a.n a.v a.e).round g q r false = z at *
      refine Does.of (nt := 41) Tryz.func12 rfl rfl rfl (by simp) ?_
      simp only [argTm, PV.ext, Ce.ext]
      refine Do.seqk fun _ k1_ => ?_
      refine Do.region [2,4,5,7,8] true ?_
      simp [go_sem]
      apply k1_; clear k1_
      refine Do.seqk fun _ k2_ => ?_
      refine Do.region [2,5,7,8,11] true ?_
      simp [go_sem]
      repeat (refine And.intro (by first | omega | (intros; omega) | (intros; exact And.intro (by assumption) (by omega)) | grind) ?_)
      refine DoL.call true 105 rfl rfl rfl rfl (by first | exact trivial | omega | (simp; done) | (simp; omega)) (hA) rfl (by first | exact .inl rfl | exact .inr rfl) rfl ?_
      simp [go_sem]
      repeat (refine And.intro (by first | omega | (intros; omega) | (intros; exact And.intro (by assumption) (by omega)) | grind) ?_)
      apply k2_; clear k2_
      refine Do.seqk fun _ k3_ => ?_
      refine Do.seqk fun _ k4_ => ?_
      refine Do.region [2,5,7,8,11,28] true ?_
      simp [go_sem]
      repeat (refine And.intro (by first | omega | (intros; omega) | (intros; exact And.intro (by assumption) (by omega)) | grind) ?_)
      apply k4_; clear k4_
      refine Do.cond [2,5,7,8,11] rfl (fun g1 => ?_) (fun g1 => ?_) <;> simp [go_sem] at g1 ⊢
      · exact absurd hk g1
      · refine Do.skip ?_
        simp [go_sem]
        apply k3_; clear k3_
        refine Do.seqk fun _ k5_ => ?_
        refine Do.draw [8,12,13] true (by kernel_rfl) ?_
        simp [go_sem]
        repeat (refine And.intro (by first | omega | (intros; omega) | (intros; exact And.intro (by assumption) (by omega)) | kernel_rfl | grind) ?_)
        refine DoLD.call true 402 rfl rfl rfl rfl (by first | exact trivial | omega | (simp; done) | (simp; omega)) (Of_does) rfl (by first | exact .inl rfl | exact .inr rfl) rfl ?_
        simp [go_sem]
        repeat (refine And.intro (by first | omega | (intros; omega) | (intros; exact And.intro (by assumption) (by omega)) | kernel_rfl | grind) ?_)
        refine DoLD.call true 405 rfl rfl rfl rfl (by first | exact trivial | omega | (simp; done) | (simp; omega)) (hF) rfl (by first | exact .inl rfl | exact .inr rfl) rfl ?_
        simp [go_sem]
        repeat (refine And.intro (by first | omega | (intros; omega) | (intros; exact And.intro (by assumption) (by omega)) | kernel_rfl | grind) ?_)
        try (refine And.intro (by kernel_rfl) ?_)
        apply k5_; clear k5_
        refine Do.seqk fun _ k6_ => ?_
        refine Do.region [8,9,10] true ?_
        simp [go_sem]
        repeat (refine And.intro (by first | omega | (intros; omega) | (intros; exact And.intro (by assumption) (by omega)) | grind) ?_)
        apply k6_; clear k6_
        refine Do.ret ?_
        simp [endQ, rets, ret1, go_sem]
        repeat (refine And.intro (by first | omega | (intros; omega) | (intros; exact And.intro (by assumption) (by omega)) | grind) ?_)
        exact TLe.refl _
    · rw [if_neg hk]
      refine Does.of (nt := 41) Tryz.func12 rfl rfl rfl (by simp) ?_
      simp only [argTm, PV.ext, Ce.ext]
      refine Do.seqk fun _ k1_ => ?_
      refine Do.region [2,4,5,7,8] true ?_
      simp [go_sem]
      apply k1_; clear k1_
      refine Do.seqk fun _ k2_ => ?_
      refine Do.region [2,5,7,8,11] true ?_
      simp [go_sem]
      repeat (refine And.intro (by first | omega | (intros; omega) | (intros; exact And.intro (by assumption) (by omega)) | grind) ?_)
      refine DoL.call true 105 rfl rfl rfl rfl (by first | exact trivial | omega | (simp; done) | (simp; omega)) (hA) rfl (by first | exact .inl rfl | exact .inr rfl) rfl ?_
      simp [go_sem]
      repeat (refine And.intro (by first | omega | (intros; omega) | (intros; exact And.intro (by assumption) (by omega)) | grind) ?_)
      apply k2_; clear k2_
      refine Do.seqk fun _ k3_ => ?_
      refine Do.seqk fun _ k4_ => ?_
      refine Do.region [2,5,7,8,11,28] true ?_
      simp [go_sem]
      repeat (refine And.intro (by first | omega | (intros; omega) | (intros; exact And.intro (by assumption) (by omega)) | grind) ?_)
      apply k4_; clear k4_
      refine Do.cond [2,5,7,8,11] rfl (fun g1 => ?_) (fun g1 => ?_) <;> simp [go_sem] at g1 ⊢
      · refine Do.seqk fun _ k5_ => ?_
        refine Do.region [8,9,10] true ?_
        simp [go_sem]
        repeat (refine And.intro (by first | omega | (intros; omega) | (intros; exact And.intro (by assumption) (by omega)) | grind) ?_)
        apply k5_; clear k5_
        refine Do.ret ?_
        simp [endQ, rets, ret1, go_sem]
        repeat (refine And.intro (by first | omega | (intros; omega) | (intros; exact And.intro (by assumption) (by omega)) | grind) ?_)
        exact TLe.refl _
      · exact absurd g1 hk
  · rw [if_neg he] at hA
    rw [if_neg he]
    generalize argsC f p g q r false x = z at *
    have hz : (z != 0) = true := by simpa using he
    refine Does.of (nt := 41) Tryz.func12 rfl rfl rfl (by simp) ?_
    simp only [argTm, PV.ext, Ce.ext]
    refine Do.seqk fun _ k1_ => ?_
    refine Do.region [2,4,5,7,8] true ?_
    simp [go_sem]
    apply k1_; clear k1_
    refine Do.seqk fun _ k2_ => ?_
    refine Do.region [2,5,7,8,11] true ?_
    simp [go_sem]
    repeat (refine And.intro (by first | omega | (intros; omega) | (intros; exact And.intro (by assumption) (by omega)) | grind) ?_)
    refine DoL.call true 105 rfl rfl rfl rfl (by first | exact trivial | omega | (simp; done) | (simp; omega)) (hA) rfl (by first | exact .inl rfl | exact .inr rfl) rfl ?_
    simp [go_sem]
    repeat (refine And.intro (by first | omega | (intros; omega) | (intros; exact And.intro (by assumption) (by omega)) | grind) ?_)
    apply k2_; clear k2_
    refine Do.seqk fun _ k3_ => ?_
    refine Do.seqk fun _ k4_ => ?_
    refine Do.region [2,5,7,8,11,28] true ?_
    simp [go_sem, hz]
    repeat (refine And.intro (by first | omega | (intros; omega) | (intros; exact And.intro (by assumption) (by omega)) | grind) ?_)
    apply k4_; clear k4_
    refine Do.cond [2,5,7,8,11] rfl (fun g1 => ?_) (fun g1 => ?_) <;> simp [go_sem, hz] at g1 ⊢
    refine Do.seqk fun _ k5_ => ?_
    refine Do.region [8,9,10] true ?_
    simp [go_sem, hz]
    repeat (refine And.intro (by first | omega | (intros; omega) | (intros; exact And.intro (by assumption) (by omega)) | grind) ?_)
    apply k5_; clear k5_
    refine Do.ret ?_
    simp [endQ, rets, ret1, go_sem, hz]
    repeat (refine And.intro (by first | omega | (intros; omega) | (intros; exact And.intro (by assumption) (by omega)) | grind) ?_)
    exact TLe.refl _
theorem Fit_does20 {f p g q : Int} (hf : fmOk f p = true) (hg : fmOk g q = true) : Does Tryz.prog Gv 46 [Fm f p, Fm g q] (.t [.c (.b (fitP f p g q)), .c (.i .i64 0)]) := by
  have h1 := @Range_does Gv f p hf
  have h2 := @Range_does Gv g q hg
  unfold fitP
  generalize (1 - gOfE f - (p - 1)) = t1 at *
  generalize (1 - gOfE g - (q - 1)) = t2 at *
  refine Does.of (nt := 48) Tryz.func46 rfl rfl rfl (by simp) ?_
  simp only [argTm, PV.ext, Ce.ext]
  refine Do.seqk fun _ k1_ => ?_
  refine Do.region [2,3] true ?_
  simp [go_sem]
  apply k1_; clear k1_
  refine Do.seqk fun _ k2_ => ?_
  refine Do.region [2,3,7,8,9] true ?_
  simp [go_sem]
  repeat (refine And.intro (by first | omega | (intros; omega) | (intros; exact And.intro (by assumption) (by omega)) | grind) ?_)
  refine DoL.call true 102 rfl rfl rfl rfl (by first | exact trivial | omega | (simp; done) | (simp; omega)) (h1) rfl (by first | exact .inl rfl | exact .inr rfl) rfl ?_
  simp [go_sem]
  apply k2_; clear k2_
  refine Do.seqk fun _ k3_ => ?_
  refine Do.seqk fun _ k4_ => ?_
  refine Do.region [2,3,7,8,9,21] true ?_
  simp [go_sem]
  apply k4_; clear k4_
  refine Do.cond [2,3,7,8,9] rfl (fun g1 => ?_) (fun g1 => ?_) <;> simp [go_sem] at g1 ⊢
  refine Do.skip ?_
  simp [go_sem]
  apply k3_; clear k3_
  refine Do.seqk fun _ k5_ => ?_
  refine Do.region [2,3,7,8,9,11,12] true ?_
  simp [go_sem]
  repeat (refine And.intro (by first | omega | (intros; omega) | (intros; exact And.intro (by assumption) (by omega)) | grind) ?_)
  refine DoL.call true 402 rfl rfl rfl rfl (by first | exact trivial | omega | (simp; done) | (simp; omega)) (h2) rfl (by first | exact .inl rfl | exact .inr rfl) rfl ?_
  simp [go_sem]
  apply k5_; clear k5_
  refine Do.seqk fun _ k6_ => ?_
  refine Do.seqk fun _ k7_ => ?_
  refine Do.region [2,3,7,8,9,11,12,31] true ?_
  simp [go_sem]
  apply k7_; clear k7_
  refine Do.cond [2,3,7,8,9,11,12] rfl (fun g1 => ?_) (fun g1 => ?_) <;> simp [go_sem] at g1 ⊢
  refine Do.skip ?_
  simp [go_sem]
  apply k6_; clear k6_
  refine Do.seqk fun _ k8_ => ?_
  refine Do.region [4,5] true ?_
  simp [go_sem]
  repeat (refine And.intro (by first | omega | (intros; omega) | (intros; exact And.intro (by assumption) (by omega)) | grind) ?_)
  apply k8_; clear k8_
  refine Do.ret ?_
  simp [endQ, rets, ret1, go_sem]
  repeat (refine And.intro (by first | omega | (intros; omega) | (intros; exact And.intro (by assumption) (by omega)) | grind) ?_)
  exact TLe.refl _
theorem ToInt_does {f p r : Int} {x : Fla} (hx : x.Ok) (he : argsC f p f p r false x = 0) {a : Flt} (ha : (holdsP f p x.flt).1 = a) (hk : a.k = 0 ∨ a.k = 1) (hok : (Nu.mk a.n a.v a.e).Ok) : Does Tryz.prog Gv 25 [Fm f p, .c (.i .i64 r), Fl x.k x.n x.e x.m] (.t [Iv (sgn a.n (wholeP r ⟨a.n, a.v, a.e⟩).1), .c (.i .i64 (if (wholeP r ⟨a.n, a.v, a.e⟩).2 then 0 else 1)), .c (.i .i64 0)]) := by
  have hA := @cargs_does f p f p r false x hx
  obtain ⟨h1, h2, h3, h4, h5, h6, h7⟩ := argsC_zero he
  rw [if_pos he, he, ha] at hA
  have hW := @WholeN_does r h2 h3 ⟨a.n, a.v, a.e⟩ hok
  generalize wholeP r ⟨a.n, a.v, a.e⟩ = w at *
  generalize sgn a.n w.1 = z at *
  have hFl := @flag_does20 w.2
  generalize (if w.2 = true then (0 : Int) else 1) = fl at *
  refine Does.of (nt := 40) Tryz.func25 rfl rfl rfl (by simp) ?_
  simp only [argTm, PV.ext, Ce.ext]
  refine Do.seqk fun _ k1_ => ?_
  refine Do.region [1,3,5,6] true ?_
  simp [go_sem]
  apply k1_; clear k1_
  refine Do.seqk fun _ k2_ => ?_
  refine Do.region [1,5,6,9] true ?_
  simp [go_sem]
  repeat (refine And.intro (by first | omega | (intros; omega) | (intros; exact And.intro (by assumption) (by omega)) | grind) ?_)
  refine DoL.call true 105 rfl rfl rfl rfl (by first | exact trivial | omega | (simp; done) | (simp; omega)) (hA) rfl (by first | exact .inl rfl | exact .inr rfl) rfl ?_
  simp [go_sem]
  repeat (refine And.intro (by first | omega | (intros; omega) | (intros; exact And.intro (by assumption) (by omega)) | grind) ?_)
  apply k2_; clear k2_
  refine Do.seqk fun _ k3_ => ?_
  refine Do.block ?_
  refine Do.seqk fun _ k4_ => ?_
  refine Do.region [1,5,6,9,20] true ?_
  simp [go_sem]
  apply k4_; clear k4_
  refine Do.cond [1,5,6,9] rfl (fun g1 => ?_) (fun g1 => ?_) <;> simp [go_sem] at g1 ⊢
  refine Do.seqk fun _ k5_ => ?_
  refine Do.region [1,5,6,25] true ?_
  simp [go_sem]
  repeat (refine And.intro (by first | omega | (intros; omega) | (intros; exact And.intro (by assumption) (by omega)) | grind) ?_)
  refine DoL.call true 402 rfl rfl rfl rfl (by first | exact trivial | omega | (simp; done) | (simp; omega)) (number_does20) rfl (by first | exact .inl rfl | exact .inr rfl) rfl ?_
  simp [go_sem]
  repeat (refine And.intro (by first | omega | (intros; omega) | (intros; exact And.intro (by assumption) (by omega)) | grind) ?_)
  apply k5_; clear k5_
  refine Do.cond [1,5,6] rfl (fun g2 => ?_) (fun g2 => ?_) <;> simp [go_sem] at g2 ⊢
  · omega
  · refine Do.skip ?_
    simp [go_sem]
    apply k3_; clear k3_
    refine Do.seqk fun _ k6_ => ?_
    refine Do.region [6,10,11] true ?_
    simp [go_sem]
    repeat (refine And.intro (by first | omega | (intros; omega) | (intros; exact And.intro (by assumption) (by omega)) | grind) ?_)
    refine DoL.call true 602 rfl rfl rfl rfl (by first | exact trivial | omega | (simp; done) | (simp; omega)) (Of_does) rfl (by first | exact .inl rfl | exact .inr rfl) rfl ?_
    simp [go_sem]
    refine DoL.call true 604 rfl rfl rfl rfl (by first | exact trivial | omega | (simp; done) | (simp; omega)) (hW) rfl (by first | exact .inl rfl | exact .inr rfl) rfl ?_
    simp [go_sem]
    repeat (refine And.intro (by first | omega | (intros; omega) | (intros; exact And.intro (by assumption) (by omega)) | grind) ?_)
    apply k6_; clear k6_
    refine Do.seqk fun _ k7_ => ?_
    refine Do.draw [6,7,8] true (by kernel_rfl) ?_
    simp [go_sem]
    repeat (refine And.intro (by first | omega | (intros; omega) | (intros; exact And.intro (by assumption) (by omega)) | kernel_rfl | grind) ?_)
    refine DoLD.call true 703 rfl rfl rfl rfl (by first | exact trivial | omega | (simp; done) | (simp; omega)) (hFl) rfl (by first | exact .inl rfl | exact .inr rfl) rfl ?_
    simp [go_sem]
    repeat (refine And.intro (by first | omega | (intros; omega) | (intros; exact And.intro (by assumption) (by omega)) | kernel_rfl | grind) ?_)
    try (refine And.intro (by kernel_rfl) ?_)
    apply k7_; clear k7_
    refine Do.ret ?_
    simp [endQ, rets, ret1, go_sem]
    repeat (refine And.intro (by first | omega | (intros; omega) | (intros; exact And.intro (by assumption) (by omega)) | grind) ?_)
    exact TLe.refl _
end Go.Proofs.YtokgalpflooegaaGreatDoor
/- Rounding of rational numbers whose denominator is 1; the program awake. No condition. -/
namespace Go.Proofs.YtokgalpflooegaaGreatDoor
set_option linter.unusedVariables false
set_option linter.unusedSimpArgs false
set_option maxHeartbeats 4000000
set_option maxRecDepth 10000
/-- A rational number as it is laid. -/
abbrev Qr (n : Bool) (m d : List Nat) : PV := .a [.b n, .w false m, .w false d]
/-- The error of a rational number and a rounding. -/
def checkQ (r : Int) (m d : List Nat) : Int :=
  if 4096 < m.length ∨ 4096 < d.length then 2 else if val d = 0 then 5 else if 0 ≤ r ∧ r ≤ 4 then 0 else 1
theorem check_does20 {r : Int} {n : Bool} {m d : List Nat} (hm : Sh m) (hd : Sh d) : Does Tryz.prog Gv 120 [.c (.i .i64 r), .s false [[.b n, .w false m, .w false d]]] (.v (.c (.i .i64 (checkQ r m d)))) := by
  have hz : checkQ r m d = checkQ r m d := rfl
  conv at hz => rhs; unfold checkQ
  generalize checkQ r m d = z at *
  have hZ := @Zero_does Gv d hd
  have hR := @Right_does Gv r
  refine Does.of (nt := 40) Tryz.func120 rfl rfl rfl (by simp) ?_
  simp only [argTm, PV.ext, Ce.ext]
  refine Do.seqk fun _ k1_ => ?_
  refine Do.region [0,1] true ?_
  simp [go_sem]
  apply k1_; clear k1_
  refine Do.seqk fun _ k2_ => ?_
  refine Do.seqk fun _ k3_ => ?_
  refine Do.region [0,1,9,10,11] true ?_
  simp [go_sem]
  repeat (refine And.intro (by first | omega | (intros; omega) | (intros; exact And.intro (by assumption) (by omega)) | grind) ?_)
  apply k3_; clear k3_
  refine Do.block ?_
  refine Do.loopF [0,1,9,10,11] (fun (i : Nat) => [(11, .int .i64 i)]) (fun (i : Nat) => []) (fun (i : Nat) => i ≤ 1 ∧ (0 < i → ¬ (4096 < m.length ∨ 4096 < d.length))) (fun (i : Nat) => 1 - i) (0) (fun _ => by first | (simp [go_sem, mixS]; done) | (simp [go_sem, mixS]; rfl)) (St.le_of (by first | rfl | simp [keep]) (by first | rfl | simp [keep])) (⟨by omega, by omega⟩) ?_
  rintro i ⟨hi, hs⟩
  refine Do.seqk fun _ k4_ => ?_
  refine Do.region [0,1,9,10,11,12] true ?_
  simp [go_sem]
  apply k4_; clear k4_
  refine Do.seqk fun _ k5_ => ?_
  refine Do.cond [0,1,9,10,11] rfl (fun g1 => ?_) (fun g1 => ?_) <;> simp [go_sem] at g1 ⊢
  · obtain rfl : i = 0 := by omega
    refine Do.skip ?_
    simp [go_sem]
    apply k5_; clear k5_
    refine Do.seqk fun _ k6_ => ?_
    refine Do.block ?_
    refine Do.seqk fun _ k7_ => ?_
    refine Do.region [0,1,6,9,10,11] true ?_
    simp [go_sem, List.length_cons, List.length_nil]
    repeat (refine And.intro (by first | omega | (intros; omega) | (intros; exact And.intro (by assumption) (by omega)) | grind) ?_)
    apply k7_; clear k7_
    refine Do.seqk fun _ k8_ => ?_
    refine Do.region [0,1,9,10,11,25] true ?_
    simp [go_sem, List.length_cons, List.length_nil]
    repeat (refine And.intro (by first | omega | (intros; omega) | (intros; exact And.intro (by assumption) (by omega)) | grind) ?_)
    apply k8_; clear k8_
    refine Do.cond [0,1,9,10,11] rfl (fun g2 => ?_) (fun g2 => ?_) <;> simp [go_sem, List.length_cons, List.length_nil] at g2 ⊢
    · refine Do.seqk fun _ k9_ => ?_
      refine Do.region [4] true ?_
      simp [go_sem, List.length_cons, List.length_nil]
      apply k9_; clear k9_
      refine Do.ret ?_
      simp [endQ, rets, ret1, go_sem, List.length_cons, List.length_nil]
      repeat (refine And.intro (by first | omega | (intros; omega) | (intros; exact And.intro (by assumption) (by omega)) | grind) ?_)
      rw [if_pos (by omega)] at hz
      subst hz
      exact TLe.refl _
    · refine Do.skip ?_
      simp [go_sem]
      apply k6_; clear k6_
      refine Do.region [0,1,9,10,11] true ?_
      simp [go_sem, List.length_cons, List.length_nil]
      repeat (refine And.intro (by first | omega | (intros; omega) | (intros; exact And.intro (by assumption) (by omega)) | grind) ?_)
      refine ⟨1, St.le_of (by first | rfl | simp [keep]) (by first | rfl | simp [keep]), ⟨by omega, by omega⟩, by simp⟩
  · obtain rfl : i = 1 := by omega
    have hs := hs (by omega)
    rw [if_neg hs] at hz
    refine Do.exit ?_
    simp [go_sem]
    apply k2_; clear k2_
    refine Do.seqk fun _ k10_ => ?_
    refine Do.seqk fun _ k11_ => ?_
    refine Do.region [0,27,28,29] true ?_
    simp [go_sem]
    repeat (refine And.intro (by first | omega | (intros; omega) | (intros; exact And.intro (by assumption) (by omega)) | grind) ?_)
    apply k11_; clear k11_
    refine Do.block ?_
    refine Do.loopF [0,27,28,29] (fun (j : Nat) => [(29, .int .i64 j)]) (fun (j : Nat) => []) (fun (j : Nat) => j ≤ 1 ∧ (0 < j → val d ≠ 0)) (fun (j : Nat) => 1 - j) (0) (fun _ => by first | (simp [go_sem, mixS]; done) | (simp [go_sem, mixS]; rfl)) (St.le_of (by first | rfl | simp [keep]) (by first | rfl | simp [keep])) (⟨by omega, by omega⟩) ?_
    rintro j ⟨hj, hs2⟩
    refine Do.seqk fun _ k12_ => ?_
    refine Do.region [0,27,28,29,30] true ?_
    simp [go_sem]
    apply k12_; clear k12_
    refine Do.seqk fun _ k13_ => ?_
    refine Do.cond [0,27,28,29] rfl (fun g3 => ?_) (fun g3 => ?_) <;> simp [go_sem] at g3 ⊢
    · obtain rfl : j = 0 := by omega
      refine Do.skip ?_
      simp [go_sem]
      apply k13_; clear k13_
      refine Do.seqk fun _ k14_ => ?_
      refine Do.block ?_
      refine Do.seqk fun _ k15_ => ?_
      refine Do.region [0,8,27,28,29] true ?_
      simp [go_sem, List.length_cons, List.length_nil]
      repeat (refine And.intro (by first | omega | (intros; omega) | (intros; exact And.intro (by assumption) (by omega)) | grind) ?_)
      apply k15_; clear k15_
      refine Do.seqk fun _ k16_ => ?_
      refine Do.region [0,27,28,29,35] true ?_
      simp [go_sem, List.length_cons, List.length_nil]
      repeat (refine And.intro (by first | omega | (intros; omega) | (intros; exact And.intro (by assumption) (by omega)) | grind) ?_)
      refine DoL.call true 1003 rfl rfl rfl rfl (by first | exact trivial | omega | (simp; done) | (simp; omega)) (hZ) rfl (by first | exact .inl rfl | exact .inr rfl) rfl ?_
      simp [go_sem, List.length_cons, List.length_nil]
      apply k16_; clear k16_
      refine Do.cond [0,27,28,29] rfl (fun g4 => ?_) (fun g4 => ?_) <;> simp [go_sem, List.length_cons, List.length_nil] at g4 ⊢
      · refine Do.seqk fun _ k17_ => ?_
        refine Do.region [4] true ?_
        simp [go_sem, List.length_cons, List.length_nil]
        apply k17_; clear k17_
        refine Do.ret ?_
        simp [endQ, rets, ret1, go_sem, List.length_cons, List.length_nil]
        repeat (refine And.intro (by first | omega | (intros; omega) | (intros; exact And.intro (by assumption) (by omega)) | grind) ?_)
        rw [if_pos g4] at hz
        subst hz
        exact TLe.refl _
      · refine Do.skip ?_
        simp [go_sem]
        apply k14_; clear k14_
        refine Do.region [0,27,28,29] true ?_
        simp [go_sem, List.length_cons, List.length_nil]
        repeat (refine And.intro (by first | omega | (intros; omega) | (intros; exact And.intro (by assumption) (by omega)) | grind) ?_)
        refine ⟨1, St.le_of (by first | rfl | simp [keep]) (by first | rfl | simp [keep]), ⟨by omega, fun _ => g4⟩, by simp⟩
    · obtain rfl : j = 1 := by omega
      rw [if_neg (hs2 (by omega))] at hz
      refine Do.exit ?_
      simp [go_sem]
      apply k10_; clear k10_
      refine Do.seqk fun _ k18_ => ?_
      refine Do.seqk fun _ k19_ => ?_
      refine Do.region [39] true ?_
      simp [go_sem]
      refine DoL.call true 1302 rfl rfl rfl rfl (by first | exact trivial | omega | (simp; done) | (simp; omega)) (hR) rfl (by first | exact .inl rfl | exact .inr rfl) rfl ?_
      simp [go_sem]
      repeat (refine And.intro (by first | omega | (intros; omega) | (intros; exact And.intro (by assumption) (by omega)) | grind) ?_)
      apply k19_; clear k19_
      refine Do.cond [] rfl (fun g5 => ?_) (fun g5 => ?_) <;> simp [go_sem] at g5 ⊢
      · refine Do.seqk fun _ k20_ => ?_
        refine Do.region [4] true ?_
        simp [go_sem]
        apply k20_; clear k20_
        refine Do.ret ?_
        simp [endQ, rets, ret1, go_sem]
        repeat (refine And.intro (by first | omega | (intros; omega) | (intros; exact And.intro (by assumption) (by omega)) | grind) ?_)
        rw [if_neg (by omega)] at hz
        subst hz
        exact TLe.refl _
      · refine Do.skip ?_
        simp [go_sem]
        apply k18_; clear k18_
        refine Do.seqk fun _ k21_ => ?_
        refine Do.region [4] true ?_
        simp [go_sem]
        apply k21_; clear k21_
        refine Do.ret ?_
        simp [endQ, rets, ret1, go_sem]
        repeat (refine And.intro (by first | omega | (intros; omega) | (intros; exact And.intro (by assumption) (by omega)) | grind) ?_)
        rw [if_pos (by omega)] at hz
        subst hz
        exact TLe.refl _
/-- A rational number with the denominator 1, rounded, or the error. -/
def roundQ (f p r : Int) (n : Bool) (m : List Nat) : Flt × Int × Int :=
  if checkQ r m [1] ≠ 0 then (⟨0, false, 0, 0⟩, 0, checkQ r m [1]) else if fmOk f p = false then (⟨0, false, 0, 0⟩, 0, 150)
  else if val m = 0 then (⟨0, false, 0, 0⟩, 0, 0) else ((roundP f p r n (val m) 0 false).1, (roundP f p r n (val m) 0 false).2, 0)
theorem checkQ_zero {r : Int} {m d : List Nat} (h : checkQ r m d = 0) : m.length ≤ 4096 ∧ d.length ≤ 4096 ∧ val d ≠ 0 ∧ 0 ≤ r ∧ r ≤ 4 := by
  unfold checkQ at h
  split at h
  · omega
  · split at h
    · omega
    · split at h <;> omega
theorem Round_err20 {f p r : Int} {n : Bool} {m d : List Nat} (hm : Sh m) (hd : Sh d) (h : checkQ r m d ≠ 0) : Does Tryz.prog Gv 57 [Fm f p, .c (.i .i64 r), Qr n m d] (.t [Flt.pv ⟨0, false, 0, 0⟩, .c (.i .i64 0), .c (.i .i64 (checkQ r m d))]) := by
  have hC := @check_does20 r n m d hm hd
  generalize checkQ r m d = z at *
  have hz : (z != 0) = true := by simpa using h
  have hz2 : (z == 0) = false := by simpa using h
  refine Does.of (nt := 46) Tryz.func57 rfl rfl rfl (by simp) ?_
  simp only [argTm, PV.ext, Ce.ext]
  refine Do.seqk fun _ k1_ => ?_
  refine Do.region [1,3,5,6] true ?_
  simp [go_sem]
  apply k1_; clear k1_
  refine Do.seqk fun _ k2_ => ?_
  refine Do.region [1,3,5,6,9] true ?_
  simp [go_sem]
  repeat (refine And.intro (by first | omega | (intros; omega) | (intros; exact And.intro (by assumption) (by omega)) | grind) ?_)
  refine DoL.sealS true 103 102 rfl ?_
  simp [go_sem]
  refine DoL.call true 104 rfl rfl rfl rfl (by first | exact trivial | omega | (simp; done) | (simp; omega)) (hC) rfl (by first | exact .inl rfl | exact .inr rfl) rfl ?_
  simp [go_sem]
  apply k2_; clear k2_
  refine Do.seqk fun _ k3_ => ?_
  refine Do.seqk fun _ k4_ => ?_
  refine Do.region [1,3,5,6,9,17] true ?_
  simp [go_sem, hz, hz2]
  apply k4_; clear k4_
  refine Do.cond [1,3,5,6,9] rfl (fun g1 => ?_) (fun g1 => ?_) <;> simp [go_sem, hz, hz2] at g1 ⊢
  refine Do.skip ?_
  simp [go_sem]
  apply k3_; clear k3_
  refine Do.seqk fun _ k5_ => ?_
  refine Do.seqk fun _ k6_ => ?_
  refine Do.region [1,3,5,6,9,27] true ?_
  simp [go_sem, hz, hz2]
  repeat (refine And.intro (by first | omega | (intros; omega) | (intros; exact And.intro (by assumption) (by omega)) | grind) ?_)
  refine DoL.gOff true 407 rfl rfl (.v (.c (.b false))) rfl ?_
  simp [go_sem, hz, hz2]
  apply k6_; clear k6_
  refine Do.cond [1,3,5,6,9] rfl (fun g2 => ?_) (fun g2 => ?_) <;> simp [go_sem, hz, hz2] at g2 ⊢
  refine Do.seqk fun _ k7_ => ?_
  refine Do.region [6,7,8] true ?_
  simp [go_sem, hz, hz2]
  repeat (refine And.intro (by first | omega | (intros; omega) | (intros; exact And.intro (by assumption) (by omega)) | grind) ?_)
  apply k7_; clear k7_
  refine Do.ret ?_
  simp [endQ, rets, ret1, go_sem, hz, hz2]
  repeat (refine And.intro (by first | omega | (intros; omega) | (intros; exact And.intro (by assumption) (by omega)) | grind) ?_)
  exact TLe.t (.cons (PLe.flt (ret_z rfl)) (.cons (PLe.refl _) (.cons (PLe.refl _) .nil)))
theorem Round_fmt20 {f p r : Int} {n : Bool} {m d : List Nat} (hm : Sh m) (hd : Sh d) (h : checkQ r m d = 0) (hf : fmOk f p = false) : Does Tryz.prog Gv 57 [Fm f p, .c (.i .i64 r), Qr n m d] (.t [Flt.pv ⟨0, false, 0, 0⟩, .c (.i .i64 0), .c (.i .i64 150)]) := by
  have hC := @check_does20 r n m d hm hd
  rw [h] at hC
  have hF := @Check_does Gv f p
  rw [if_neg (by simp [hf])] at hF
  refine Does.of (nt := 46) Tryz.func57 rfl rfl rfl (by simp) ?_
  simp only [argTm, PV.ext, Ce.ext]
  refine Do.seqk fun _ k1_ => ?_
  refine Do.region [1,3,5,6] true ?_
  simp [go_sem]
  apply k1_; clear k1_
  refine Do.seqk fun _ k2_ => ?_
  refine Do.region [1,3,5,6,9] true ?_
  simp [go_sem]
  repeat (refine And.intro (by first | omega | (intros; omega) | (intros; exact And.intro (by assumption) (by omega)) | grind) ?_)
  refine DoL.sealS true 103 102 rfl ?_
  simp [go_sem]
  refine DoL.call true 104 rfl rfl rfl rfl (by first | exact trivial | omega | (simp; done) | (simp; omega)) (hC) rfl (by first | exact .inl rfl | exact .inr rfl) rfl ?_
  simp [go_sem]
  apply k2_; clear k2_
  refine Do.seqk fun _ k3_ => ?_
  refine Do.seqk fun _ k4_ => ?_
  refine Do.region [1,3,5,6,9,17] true ?_
  simp [go_sem]
  apply k4_; clear k4_
  refine Do.cond [1,3,5,6,9] rfl (fun g1 => ?_) (fun g1 => ?_) <;> simp [go_sem] at g1 ⊢
  refine Do.region [1,3,5,6,9] true ?_
  simp [go_sem]
  repeat (refine And.intro (by first | omega | (intros; omega) | (intros; exact And.intro (by assumption) (by omega)) | grind) ?_)
  refine DoL.call true 302 rfl rfl rfl rfl (by first | exact trivial | omega | (simp; done) | (simp; omega)) (hF) rfl (by first | exact .inl rfl | exact .inr rfl) rfl ?_
  simp [go_sem]
  apply k3_; clear k3_
  refine Do.seqk fun _ k5_ => ?_
  refine Do.seqk fun _ k6_ => ?_
  refine Do.region [1,3,5,6,9,27] true ?_
  simp [go_sem]
  repeat (refine And.intro (by first | omega | (intros; omega) | (intros; exact And.intro (by assumption) (by omega)) | grind) ?_)
  refine DoL.gOff true 407 rfl rfl (.v (.c (.b false))) rfl ?_
  simp [go_sem]
  apply k6_; clear k6_
  refine Do.cond [1,3,5,6,9] rfl (fun g2 => ?_) (fun g2 => ?_) <;> simp [go_sem] at g2 ⊢
  refine Do.seqk fun _ k7_ => ?_
  refine Do.region [6,7,8] true ?_
  simp [go_sem]
  repeat (refine And.intro (by first | omega | (intros; omega) | (intros; exact And.intro (by assumption) (by omega)) | grind) ?_)
  apply k7_; clear k7_
  refine Do.ret ?_
  simp [endQ, rets, ret1, go_sem]
  repeat (refine And.intro (by first | omega | (intros; omega) | (intros; exact And.intro (by assumption) (by omega)) | grind) ?_)
  exact TLe.t (.cons (PLe.flt (ret_z rfl)) (.cons (PLe.refl _) (.cons (PLe.refl _) .nil)))
theorem Round_zero20 {f p r : Int} {n : Bool} {m d : List Nat} (hm : Sh m) (hd : Sh d) (h : checkQ r m d = 0) (hf : fmOk f p = true) (h0 : val m = 0) : Does Tryz.prog Gv 57 [Fm f p, .c (.i .i64 r), Qr n m d] (.t [Flt.pv ⟨0, false, 0, 0⟩, .c (.i .i64 0), .c (.i .i64 0)]) := by
  have hC := @check_does20 r n m d hm hd
  rw [h] at hC
  have hF := @Check_does Gv f p
  rw [if_pos hf] at hF
  have hZ := @Zero_does Gv m hm
  rw [decide_eq_true h0] at hZ
  refine Does.of (nt := 46) Tryz.func57 rfl rfl rfl (by simp) ?_
  simp only [argTm, PV.ext, Ce.ext]
  refine Do.seqk fun _ k1_ => ?_
  refine Do.region [1,3,5,6] true ?_
  simp [go_sem]
  apply k1_; clear k1_
  refine Do.seqk fun _ k2_ => ?_
  refine Do.region [1,3,5,6,9] true ?_
  simp [go_sem]
  repeat (refine And.intro (by first | omega | (intros; omega) | (intros; exact And.intro (by assumption) (by omega)) | grind) ?_)
  refine DoL.sealS true 103 102 rfl ?_
  simp [go_sem]
  refine DoL.call true 104 rfl rfl rfl rfl (by first | exact trivial | omega | (simp; done) | (simp; omega)) (hC) rfl (by first | exact .inl rfl | exact .inr rfl) rfl ?_
  simp [go_sem]
  apply k2_; clear k2_
  refine Do.seqk fun _ k3_ => ?_
  refine Do.seqk fun _ k4_ => ?_
  refine Do.region [1,3,5,6,9,17] true ?_
  simp [go_sem]
  apply k4_; clear k4_
  refine Do.cond [1,3,5,6,9] rfl (fun g1 => ?_) (fun g1 => ?_) <;> simp [go_sem] at g1 ⊢
  refine Do.region [1,3,5,6,9] true ?_
  simp [go_sem]
  repeat (refine And.intro (by first | omega | (intros; omega) | (intros; exact And.intro (by assumption) (by omega)) | grind) ?_)
  refine DoL.call true 302 rfl rfl rfl rfl (by first | exact trivial | omega | (simp; done) | (simp; omega)) (hF) rfl (by first | exact .inl rfl | exact .inr rfl) rfl ?_
  simp [go_sem]
  apply k3_; clear k3_
  refine Do.seqk fun _ k5_ => ?_
  refine Do.seqk fun _ k6_ => ?_
  refine Do.region [1,3,5,6,9,27] true ?_
  simp [go_sem]
  repeat (refine And.intro (by first | omega | (intros; omega) | (intros; exact And.intro (by assumption) (by omega)) | grind) ?_)
  refine DoL.callg true 407 rfl rfl rfl rfl rfl (by simp [go_sem] <;> omega) (fun _ => hZ) rfl (by first | exact .inl rfl | exact .inr rfl) rfl ?_
  simp [go_sem]
  apply k6_; clear k6_
  refine Do.cond [1,3,5,6,9] rfl (fun g2 => ?_) (fun g2 => ?_) <;> simp [go_sem] at g2 ⊢
  refine Do.seqk fun _ k7_ => ?_
  refine Do.region [6,7,8] true ?_
  simp [go_sem]
  repeat (refine And.intro (by first | omega | (intros; omega) | (intros; exact And.intro (by assumption) (by omega)) | grind) ?_)
  apply k7_; clear k7_
  refine Do.ret ?_
  simp [endQ, rets, ret1, go_sem]
  repeat (refine And.intro (by first | omega | (intros; omega) | (intros; exact And.intro (by assumption) (by omega)) | grind) ?_)
  exact TLe.t (.cons (PLe.flt (ret_z rfl)) (.cons (PLe.refl _) (.cons (PLe.refl _) .nil)))
theorem Round_one {f p r : Int} {n : Bool} {m : List Nat} (hm : Sh m) (wm : Ws m) : Does Tryz.prog Gv 57 [Fm f p, .c (.i .i64 r), Qr n m [1]] (Res (roundQ f p r n m)) := by
  unfold roundQ
  by_cases h : checkQ r m [1] = 0
  · rw [if_neg (by omega)]
    cases hf : fmOk f p with
    | false => rw [if_pos rfl]; exact Round_fmt20 hm (by decide) h hf
    | true =>
      rw [if_neg (by simp)]
      by_cases h0 : val m = 0
      · rw [if_pos h0]; exact Round_zero20 hm (by decide) h hf h0
      · rw [if_neg h0]
        obtain ⟨c1, c2, c3, c4, c5⟩ := checkQ_zero h
        have hC := @check_does20 r n m [1] hm (by decide)
        rw [h] at hC
        have hF := @Check_does Gv f p
        rw [if_pos hf] at hF
        have hZ := @Zero_does Gv m hm
        rw [decide_eq_false h0] at hZ
        have hR := @Ratio_one f p r hf c4 c5 n m c1 wm (by omega)
        generalize roundP f p r n (val m) 0 false = z at *
        refine Does.of (nt := 46) Tryz.func57 rfl rfl rfl (by simp) ?_
        simp only [argTm, PV.ext, Ce.ext]
        refine Do.seqk fun _ k1_ => ?_
        refine Do.region [1,3,5,6] true ?_
        simp [go_sem]
        apply k1_; clear k1_
        refine Do.seqk fun _ k2_ => ?_
        refine Do.region [1,3,5,6,9] true ?_
        simp [go_sem]
        repeat (refine And.intro (by first | omega | (intros; omega) | (intros; exact And.intro (by assumption) (by omega)) | grind) ?_)
        refine DoL.sealS true 103 102 rfl ?_
        simp [go_sem]
        refine DoL.call true 104 rfl rfl rfl rfl (by first | exact trivial | omega | (simp; done) | (simp; omega)) (hC) rfl (by first | exact .inl rfl | exact .inr rfl) rfl ?_
        simp [go_sem]
        apply k2_; clear k2_
        refine Do.seqk fun _ k3_ => ?_
        refine Do.seqk fun _ k4_ => ?_
        refine Do.region [1,3,5,6,9,17] true ?_
        simp [go_sem]
        apply k4_; clear k4_
        refine Do.cond [1,3,5,6,9] rfl (fun g1 => ?_) (fun g1 => ?_) <;> simp [go_sem] at g1 ⊢
        refine Do.region [1,3,5,6,9] true ?_
        simp [go_sem]
        repeat (refine And.intro (by first | omega | (intros; omega) | (intros; exact And.intro (by assumption) (by omega)) | grind) ?_)
        refine DoL.call true 302 rfl rfl rfl rfl (by first | exact trivial | omega | (simp; done) | (simp; omega)) (hF) rfl (by first | exact .inl rfl | exact .inr rfl) rfl ?_
        simp [go_sem]
        apply k3_; clear k3_
        refine Do.seqk fun _ k5_ => ?_
        refine Do.seqk fun _ k6_ => ?_
        refine Do.region [1,3,5,6,9,27] true ?_
        simp [go_sem]
        repeat (refine And.intro (by first | omega | (intros; omega) | (intros; exact And.intro (by assumption) (by omega)) | grind) ?_)
        refine DoL.callg true 407 rfl rfl rfl rfl rfl (by simp [go_sem] <;> omega) (fun _ => hZ) rfl (by first | exact .inl rfl | exact .inr rfl) rfl ?_
        simp [go_sem]
        apply k6_; clear k6_
        refine Do.cond [1,3,5,6,9] rfl (fun g2 => ?_) (fun g2 => ?_) <;> simp [go_sem] at g2 ⊢
        refine Do.skip ?_
        simp [go_sem]
        apply k5_; clear k5_
        refine Do.seqk fun _ k7_ => ?_
        refine Do.region [6,10,11] true ?_
        simp [go_sem]
        repeat (refine And.intro (by first | omega | (intros; omega) | (intros; exact And.intro (by assumption) (by omega)) | grind) ?_)
        refine DoL.call true 611 rfl rfl rfl rfl (by first | exact trivial | omega | (simp; done) | (simp; omega)) (hR) rfl (by first | exact .inl rfl | exact .inr rfl) rfl ?_
        simp [go_sem]
        repeat (refine And.intro (by first | omega | (intros; omega) | (intros; exact And.intro (by assumption) (by omega)) | grind) ?_)
        apply k7_; clear k7_
        refine Do.seqk fun _ k8_ => ?_
        refine Do.region [6,7,8] true ?_
        simp [go_sem]
        repeat (refine And.intro (by first | omega | (intros; omega) | (intros; exact And.intro (by assumption) (by omega)) | grind) ?_)
        apply k8_; clear k8_
        refine Do.ret ?_
        simp [endQ, rets, ret1, go_sem]
        repeat (refine And.intro (by first | omega | (intros; omega) | (intros; exact And.intro (by assumption) (by omega)) | grind) ?_)
        exact TLe.refl _
  · rw [if_pos h]; exact Round_err20 hm (by decide) h
theorem ws_one {w : Nat} (h : w < 18446744073709551616) : Ws [w] := fun u hu => by simp at hu; omega
theorem awk_round : roundQ 5 11 2 false [2049] = (⟨1, false, 11, 1⟩, 1, 0) := by kernel_rfl
theorem Odd_awake : Does Tryz.prog Gv 20 [Fm 5 11, Qr false [2049] [1]] (.t [Flt.pv ⟨1, false, 1, 1025⟩, .c (.i .i64 1), .c (.i .i64 0)]) := by
  have hR := @Round_one 5 11 2 false [2049] (by decide) (ws_one (by decide))
  rw [awk_round] at hR
  have hR : Does Tryz.prog Gv 57 [Fm 5 11, .c (.i .i64 2), Qr false [2049] [1]] (.t [Fl 1 false 11 (nat 1), .c (.i .i64 1), .c (.i .i64 0)]) := hR
  rw [nat_one] at hR
  have hG : Does Tryz.prog Gv 58 [Fm 5 11] (.t [.c (.i .i64 (-14)), .c (.i .i64 15), .c (.i .i64 (-24)), .c (.i .i64 0)]) := @Range_does Gv 5 11 rfl
  have hL : Does Tryz.prog Gv 59 [Fm 5 11] (.t [Fl 1 false 5 (nat 2047), (Flt.mk 1 false (-14) 1).pv, (Flt.mk 1 false (-24) 1).pv, .c (.i .i64 0)]) := @Limits_does Gv 5 11 rfl
  have hS1 : Does Tryz.prog Gv 61 [Fm 5 11, .c (.i .i64 (-14))] (.v (.c (.i .i64 (-24)))) := @Step_does Gv 5 11 (-14) rfl (by decide) (by decide)
  have hS2 : Does Tryz.prog Gv 61 [Fm 5 11, .c (.i .i64 11)] (.v (.c (.i .i64 1))) := @Step_does Gv 5 11 11 rfl (by decide) (by decide)
  have hN : Does Tryz.prog Gv 62 [Wd [1]] (.int .i64 1) := @Len_does Gv [1] (by decide) (ws_one (by decide))
  have hSh : Does Tryz.prog Gv 65 [Wd [1], .c (.i .i64 10)] (.v (Wn (nat 1024))) := @Shl_does Gv [1] (by decide) (ws_one (by decide)) 10 (by decide)
  have hA := @Add_does Gv (nat 1024) [1] (by rw [nat_word (by decide) (by decide)]; decide) (by decide) (nat_ws _) (ws_one (by decide)) (by rw [nat_word (by decide) (by decide)]; decide) (by decide)
  rw [val_nat, show 1024 + val [1] = 1025 from rfl] at hA
  have hM := @Make_does false (nat 1025) 1 (by rw [nat_word (by decide) (by decide)]; decide) (nat_ws _) (by decide) (by decide)
  rw [val_nat, show mkP false 1025 1 = ⟨1, false, 1, 1025⟩ by kernel_rfl] at hM
  refine Does.of (nt := 109) Tryz.func20 rfl rfl rfl (by simp) ?_
  simp only [argTm, PV.ext, Ce.ext]
  refine Do.seqk fun _ k1_ => ?_
  refine Do.region [2,3,4] true ?_
  simp [go_sem]
  apply k1_; clear k1_
  refine Do.seqk fun _ k2_ => ?_
  refine Do.region [2,3,4,7,8,9] true ?_
  simp [go_sem]
  repeat (refine And.intro (by first | omega | (intros; omega) | (intros; exact And.intro (by assumption) (by omega)) | grind) ?_)
  refine DoL.call true 103 rfl rfl rfl rfl (by first | exact trivial | omega | (simp; done) | (simp; omega)) (hR) rfl (by first | exact .inl rfl | exact .inr rfl) rfl ?_
  simp [go_sem]
  repeat (refine And.intro (by first | omega | (intros; omega) | (intros; exact And.intro (by assumption) (by omega)) | grind) ?_)
  apply k2_; clear k2_
  refine Do.seqk fun _ k3_ => ?_
  refine Do.seqk fun _ k4_ => ?_
  refine Do.region [2,3,4,7,8,9,31] true ?_
  simp [go_sem]
  apply k4_; clear k4_
  refine Do.cond [2,3,4,7,8,9] rfl (fun g1 => ?_) (fun g1 => ?_) <;> simp [go_sem] at g1 ⊢
  refine Do.skip ?_
  simp [go_sem]
  apply k3_; clear k3_
  refine Do.seqk fun _ k5_ => ?_
  refine Do.region [2,3,4,7,8,10] true ?_
  simp [go_sem]
  repeat (refine And.intro (by first | omega | (intros; omega) | (intros; exact And.intro (by assumption) (by omega)) | grind) ?_)
  refine DoL.call true 402 rfl rfl rfl rfl (by first | exact trivial | omega | (simp; done) | (simp; omega)) (hG) rfl (by first | exact .inl rfl | exact .inr rfl) rfl ?_
  simp [go_sem]
  apply k5_; clear k5_
  refine Do.seqk fun _ k6_ => ?_
  refine Do.seqk fun _ k7_ => ?_
  refine Do.region [2,3,4,7,8,10,14] true ?_
  simp [go_sem]
  repeat (refine And.intro (by first | omega | (intros; omega) | (intros; exact And.intro (by assumption) (by omega)) | grind) ?_)
  refine DoL.call true 502 rfl rfl rfl rfl (by first | exact trivial | omega | (simp; done) | (simp; omega)) (hL) rfl (by first | exact .inl rfl | exact .inr rfl) rfl ?_
  simp [go_sem]
  repeat (refine And.intro (by first | omega | (intros; omega) | (intros; exact And.intro (by assumption) (by omega)) | grind) ?_)
  apply k7_; clear k7_
  refine Do.seqk fun _ k8_ => ?_
  refine Do.region [2,3,4,7,8,10,66] true ?_
  simp [go_sem]
  repeat (refine And.intro (by first | omega | (intros; omega) | (intros; exact And.intro (by assumption) (by omega)) | grind) ?_)
  refine DoL.gOff true 616 rfl rfl (.int .i64 0) rfl ?_
  simp [go_sem]
  apply k8_; clear k8_
  refine Do.cond [2,3,4,7,8,10] rfl (fun g2 => ?_) (fun g2 => ?_) <;> simp [go_sem] at g2 ⊢
  refine Do.skip ?_
  simp [go_sem]
  apply k6_; clear k6_
  refine Do.seqk fun _ k9_ => ?_
  refine Do.region [2,3,4,7,8,18] true ?_
  simp [go_sem]
  repeat (refine And.intro (by first | omega | (intros; omega) | (intros; exact And.intro (by assumption) (by omega)) | grind) ?_)
  refine DoL.call true 803 rfl rfl rfl rfl (by first | exact trivial | omega | (simp; done) | (simp; omega)) (hS1) rfl (by first | exact .inl rfl | exact .inr rfl) rfl ?_
  simp [go_sem]
  apply k9_; clear k9_
  refine Do.seqk fun _ k10_ => ?_
  refine Do.seqk fun _ k11_ => ?_
  refine Do.region [2,3,4,7,8,18,73] true ?_
  simp [go_sem]
  repeat (refine And.intro (by first | omega | (intros; omega) | (intros; exact And.intro (by assumption) (by omega)) | grind) ?_)
  apply k11_; clear k11_
  refine Do.cond [2,3,4,7,8,18] rfl (fun g3 => ?_) (fun g3 => ?_) <;> simp [go_sem] at g3 ⊢
  refine Do.draw [3,4,7,8,18] true (by kernel_rfl) ?_
  simp [go_sem]
  repeat (refine And.intro (by first | omega | (intros; omega) | (intros; exact And.intro (by assumption) (by omega)) | kernel_rfl | grind) ?_)
  refine DoLD.call true 1006 rfl rfl rfl rfl (by first | exact trivial | omega | (simp; done) | (simp; omega)) (hN) rfl (by first | exact .inl rfl | exact .inr rfl) rfl ?_
  simp [go_sem]
  repeat (refine And.intro (by first | omega | (intros; omega) | (intros; exact And.intro (by assumption) (by omega)) | kernel_rfl | grind) ?_)
  refine DoLD.call true 1009 rfl rfl rfl rfl (by first | exact trivial | omega | (simp; done) | (simp; omega)) (hS2) rfl (by first | exact .inl rfl | exact .inr rfl) rfl ?_
  simp [go_sem]
  try (refine And.intro (by kernel_rfl) ?_)
  apply k10_; clear k10_
  refine Do.seqk fun _ k12_ => ?_
  refine Do.seqk fun _ k13_ => ?_
  refine Do.region [3,4,7,8,18,91] true ?_
  simp [go_sem]
  repeat (refine And.intro (by first | omega | (intros; omega) | (intros; exact And.intro (by assumption) (by omega)) | grind) ?_)
  apply k13_; clear k13_
  refine Do.cond [3,4,7,8,18] rfl (fun g4 => ?_) (fun g4 => ?_) <;> simp [go_sem] at g4 ⊢
  refine Do.draw [4,7,8] true (by kernel_rfl) ?_
  simp [go_sem]
  repeat (refine And.intro (by first | omega | (intros; omega) | (intros; exact And.intro (by assumption) (by omega)) | kernel_rfl | grind) ?_)
  refine DoLD.call true 1211 rfl rfl rfl rfl (by first | exact trivial | omega | (simp; done) | (simp; omega)) (hSh) rfl (by first | exact .inl rfl | exact .inr rfl) rfl ?_
  simp [go_sem]
  refine DoLD.call true 1213 rfl rfl rfl rfl (by first | exact trivial | omega | (simp; done) | (simp; omega)) (hA) rfl (by first | exact .inl rfl | exact .inr rfl) rfl ?_
  simp [go_sem]
  refine DoLD.call true 1215 rfl rfl rfl rfl (by first | exact trivial | omega | (simp; done) | (simp; omega)) (hM) rfl (by first | exact .inl rfl | exact .inr rfl) rfl ?_
  simp [go_sem]
  repeat (refine And.intro (by first | omega | (intros; omega) | (intros; exact And.intro (by assumption) (by omega)) | kernel_rfl | grind) ?_)
  try (refine And.intro (by kernel_rfl) ?_)
  apply k12_; clear k12_
  refine Do.seqk fun _ k14_ => ?_
  refine Do.region [4,5,6] true ?_
  simp [go_sem]
  repeat (refine And.intro (by first | omega | (intros; omega) | (intros; exact And.intro (by assumption) (by omega)) | grind) ?_)
  apply k14_; clear k14_
  refine Do.ret ?_
  simp [endQ, rets, ret1, go_sem]
  repeat (refine And.intro (by first | omega | (intros; omega) | (intros; exact And.intro (by assumption) (by omega)) | grind) ?_)
  exact TLe.refl _
theorem NoInt_does20 {z : Int} {n : Bool} {m : List Nat} (hm : Sh m) : Does Tryz.prog Gv 27 [.a [.b n, .w false m]] (.v (.c (.b (!n && decide (m = []))))) := by
  have hl : decide (((m.length : Nat) : Int) = 0) = decide (m = []) := by
    congr 1
    cases m <;> simp
    omega
  refine Does.of (nt := 12) Tryz.func27 rfl rfl rfl (by simp) ?_
  simp only [argTm, PV.ext, Ce.ext]
  refine Do.seqk fun _ k1_ => ?_
  refine Do.region [1] true ?_
  simp [go_sem]
  apply k1_; clear k1_
  refine Do.seqk fun _ k2_ => ?_
  refine Do.region [2] true ?_
  simp [go_sem]
  repeat (refine And.intro (by first | omega | (intros; omega) | (intros; exact And.intro (by assumption) (by omega)) | grind) ?_)
  apply k2_; clear k2_
  refine Do.ret ?_
  simp [endQ, rets, ret1, go_sem]
  repeat (refine And.intro (by first | omega | (intros; omega) | (intros; exact And.intro (by assumption) (by omega)) | grind) ?_)
  exact ret_b (by cases m with | nil => simp | cons a l => simp; intro _; omega)
theorem awk_conv : convP 8 24 5 11 0 ⟨1, false, 4, [4095]⟩ = (⟨2, false, 0, 0⟩, 5, 0) := by kernel_rfl
theorem awk_fit : fitP 5 11 8 24 = true := by kernel_rfl
theorem awk_toE : argsC 5 11 5 11 3 false ⟨1, true, -1, [1]⟩ = 0 := by kernel_rfl
theorem awk_toA : (holdsP 5 11 ⟨1, true, -1, 1⟩).1 = ⟨1, true, -1, 1⟩ := by kernel_rfl
theorem awk_toW : wholeP 3 ⟨true, 1, -1⟩ = (0, false) := by kernel_rfl
theorem awake20_does : Does Tryz.prog Gv 11 [] (.v (.c (.b true))) := by
  have o1 : (Fla.mk 1 false 4 [4095]).Ok := ⟨by simp [Sh], ws_one (by decide), by constructor <;> simp⟩
  have o2 : (Fla.mk 1 true (-1) [1]).Ok := ⟨by simp [Sh], ws_one (by decide), by constructor <;> simp⟩
  have h1 := Convert_does (f := 8) (p := 24) (g := 5) (q := 11) (r := 0) o1
  rw [awk_conv] at h1
  have h1 : Does Tryz.prog Gv 12 [Fm 8 24, Fm 5 11, .c (.i .i64 0), Fl 1 false 4 [4095]] (.t [Fl 2 false 0 (nat 0), .c (.i .i64 5), .c (.i .i64 0)]) := h1
  have h2 := @Fit_does20 5 11 8 24 rfl rfl
  rw [awk_fit] at h2
  have h3 := @ToInt_does 5 11 3 ⟨1, true, -1, [1]⟩ o2 awk_toE ⟨1, true, -1, 1⟩ awk_toA (.inr rfl) ⟨by decide, by decide⟩
  have h3 : Does Tryz.prog Gv 25 [Fm 5 11, .c (.i .i64 3), Fl 1 true (-1) [1]] (.t [Iv (sgn true (wholeP 3 ⟨true, 1, -1⟩).1), .c (.i .i64 (if (wholeP 3 ⟨true, 1, -1⟩).2 then 0 else 1)), .c (.i .i64 0)]) := h3
  rw [awk_toW] at h3
  have h3 : Does Tryz.prog Gv 25 [Fm 5 11, .c (.i .i64 3), Fl 1 true (-1) [1]] (.t [.a [.b false, .w false (nat 0)], .c (.i .i64 1), .c (.i .i64 0)]) := h3
  have h4 := Odd_awake
  have h4 : Does Tryz.prog Gv 20 [Fm 5 11, Qr false [2049] [1]] (.t [Fl 1 false 1 (nat 1025), .c (.i .i64 1), .c (.i .i64 0)]) := h4
  have h5 := @NoInt_does20 0 false [] (by decide)
  rw [nat_zero] at h1 h3
  rw [nat_word (by decide) (by decide)] at h4
  refine Does.of (nt := 107) Tryz.func11 rfl rfl rfl (by simp) ?_
  simp only [argTm, PV.ext, Ce.ext]
  refine Do.seqk fun _ k1_ => ?_
  refine Do.region [] true ?_
  simp [go_sem]
  apply k1_; clear k1_
  refine Do.seqk fun _ k2_ => ?_
  refine Do.region [1] true ?_
  simp [go_sem]
  repeat (refine And.intro (by first | omega | (intros; omega) | (intros; exact And.intro (by assumption) (by omega)) | grind) ?_)
  apply k2_; clear k2_
  refine Do.seqk fun _ k3_ => ?_
  refine Do.region [1,2] true ?_
  simp [go_sem]
  repeat (refine And.intro (by first | omega | (intros; omega) | (intros; exact And.intro (by assumption) (by omega)) | grind) ?_)
  apply k3_; clear k3_
  refine Do.seqk fun _ k4_ => ?_
  refine Do.region [1,2,3] true ?_
  simp [go_sem]
  repeat (refine And.intro (by first | omega | (intros; omega) | (intros; exact And.intro (by assumption) (by omega)) | grind) ?_)
  apply k4_; clear k4_
  refine Do.seqk fun _ k5_ => ?_
  refine Do.frz 300 rfl ?_
  refine Do.region [1,2,4,5,6] true ?_
  simp [go_sem]
  repeat (refine And.intro (by first | omega | (intros; omega) | (intros; exact And.intro (by assumption) (by omega)) | grind) ?_)
  refine DoL.call true 404 rfl rfl rfl rfl (by first | exact trivial | omega | (simp; done) | (simp; omega)) (h1) rfl (by first | exact .inl rfl | exact .inr rfl) rfl ?_
  simp [go_sem]
  repeat (refine And.intro (by first | omega | (intros; omega) | (intros; exact And.intro (by assumption) (by omega)) | grind) ?_)
  apply k5_; clear k5_
  refine Do.seqk fun _ k6_ => ?_
  refine Do.region [1,4,5,6,7,8] true ?_
  simp [go_sem]
  repeat (refine And.intro (by first | omega | (intros; omega) | (intros; exact And.intro (by assumption) (by omega)) | grind) ?_)
  refine DoL.call true 503 rfl rfl rfl rfl (by first | exact trivial | omega | (simp; done) | (simp; omega)) (h2) rfl (by first | exact .inl rfl | exact .inr rfl) rfl ?_
  simp [go_sem]
  apply k6_; clear k6_
  refine Do.seqk fun _ k7_ => ?_
  refine Do.region [1,4,5,6,7,8,9,10,11] true ?_
  simp [go_sem]
  repeat (refine And.intro (by first | omega | (intros; omega) | (intros; exact And.intro (by assumption) (by omega)) | grind) ?_)
  refine DoL.frz true 603 601 rfl ?_
  simp [go_sem]
  refine DoL.call true 604 rfl rfl rfl rfl (by first | exact trivial | omega | (simp; done) | (simp; omega)) (h3) rfl (by first | exact .inl rfl | exact .inr rfl) rfl ?_
  simp [go_sem]
  repeat (refine And.intro (by first | omega | (intros; omega) | (intros; exact And.intro (by assumption) (by omega)) | grind) ?_)
  apply k7_; clear k7_
  refine Do.seqk fun _ k8_ => ?_
  refine Do.region [4,5,6,7,8,9,10,11,12,13,14] true ?_
  simp [go_sem]
  repeat (refine And.intro (by first | omega | (intros; omega) | (intros; exact And.intro (by assumption) (by omega)) | grind) ?_)
  refine DoL.frz true 705 701 rfl ?_
  simp [go_sem]
  refine DoL.frz true 705 703 rfl ?_
  simp [go_sem]
  refine DoL.call true 706 rfl rfl rfl rfl (by first | exact trivial | omega | (simp; done) | (simp; omega)) (h4) rfl (by first | exact .inl rfl | exact .inr rfl) rfl ?_
  simp [go_sem]
  repeat (refine And.intro (by first | omega | (intros; omega) | (intros; exact And.intro (by assumption) (by omega)) | grind) ?_)
  apply k8_; clear k8_
  refine Do.seqk fun _ k9_ => ?_
  refine Do.region [0] true ?_
  simp [go_sem]
  repeat (refine And.intro (by first | omega | (intros; omega) | (intros; exact And.intro (by assumption) (by omega)) | grind) ?_)
  refine DoL.callg true 829 rfl rfl rfl rfl rfl (by simp [go_sem] <;> omega) (fun _ => h5) rfl (by first | exact .inl rfl | exact .inr rfl) rfl ?_
  simp [go_sem]
  repeat (refine And.intro (by first | omega | (intros; omega) | (intros; exact And.intro (by assumption) (by omega)) | grind) ?_)
  apply k9_; clear k9_
  refine Do.ret ?_
  simp [endQ, rets, ret1, go_sem]
  repeat (refine And.intro (by first | omega | (intros; omega) | (intros; exact And.intro (by assumption) (by omega)) | grind) ?_)
  exact TLe.refl _
end Go.Proofs.YtokgalpflooegaaGreatDoor
/- The law ConvertFormats. No condition. -/
namespace Go.Proofs.YtokgalpflooegaaGreatDoor
set_option linter.unusedVariables false
set_option linter.unusedSimpArgs false
set_option maxHeartbeats 4000000
set_option maxRecDepth 10000
theorem sgn_dec {n : Bool} {v : Nat} (h : v ≠ 0) : decide (sgn n v < 0) = n := by
  cases n
  · simp [sgn]
  · simp [sgn]; omega
theorem held_fine20 {f p : Int} (hf : fmOk f p = true) {x : Flt} (h : (holdsP f p x).2 = true) : Fine (holdsP f p x).1 ∧ rcanon (holdsP f p x).1 = (holdsP f p x).1 := by
  have hc := held_canon h
  refine ⟨⟨by rw [hc], ?_⟩, by rw [← (held_rcanon h).1]; exact rcanon_idem _⟩
  by_cases hk : (holdsP f p x).1.k = 1
  · have := holdsP_bound hf h hk
    have h2 := held_fin20 h hk
    obtain ⟨b1, b2, b3, b4⟩ := fmOk_spec hf
    omega
  · have h3 := rcanon_idem x
    rw [(held_rcanon h).1] at h3
    unfold rcanon at h3
    rw [if_neg hk] at h3
    rw [← h3]; simp [bl_zero]
end Go.Proofs.YtokgalpflooegaaGreatDoor
/- The law ConvertLarge. No condition. -/
namespace Go.Proofs.YtokgalpflooegaaGreatDoor
set_option linter.unusedVariables false
set_option linter.unusedSimpArgs false
set_option maxHeartbeats 4000000
set_option maxRecDepth 10000
section
variable {f p r : Int} {x : Fla}
theorem Parts_err (hx : x.Ok) (he : argsC f p f p 2 false x ≠ 0) : Does Tryz.prog Gv 34 [Fm f p, Fl x.k x.n x.e x.m] (.t [Flt.pv ⟨0, false, 0, 0⟩, Flt.pv ⟨0, false, 0, 0⟩, .c (.i .i64 (argsC f p f p 2 false x))]) := by
  have hA := @cargs_does f p f p 2 false x hx
  rw [if_neg he] at hA
  generalize argsC f p f p 2 false x = z at *
  have hz : (z != 0) = true := by simpa using he
  refine Does.of (nt := 67) Tryz.func34 rfl rfl rfl (by simp) ?_
  simp only [argTm, PV.ext, Ce.ext]
  refine Do.seqk fun _ k1_ => ?_
  refine Do.region [2,3,4,5] true ?_
  simp [go_sem]
  apply k1_; clear k1_
  refine Do.seqk fun _ k2_ => ?_
  refine Do.region [2,3,4,5,6] true ?_
  simp [go_sem]
  repeat (refine And.intro (by first | omega | (intros; omega) | (intros; exact And.intro (by assumption) (by omega)) | grind) ?_)
  refine DoL.call true 104 rfl rfl rfl rfl (by first | exact trivial | omega | (simp; done) | (simp; omega)) (hA) rfl (by first | exact .inl rfl | exact .inr rfl) rfl ?_
  simp [go_sem]
  repeat (refine And.intro (by first | omega | (intros; omega) | (intros; exact And.intro (by assumption) (by omega)) | grind) ?_)
  apply k2_; clear k2_
  refine Do.seqk fun _ k3_ => ?_
  refine Do.region [2,3,4,5,6,7] true ?_
  simp [go_sem, hz]
  repeat (refine And.intro (by first | omega | (intros; omega) | (intros; exact And.intro (by assumption) (by omega)) | grind) ?_)
  apply k3_; clear k3_
  refine Do.seqk fun _ k4_ => ?_
  refine Do.block ?_
  refine Do.seqk fun _ k5_ => ?_
  refine Do.region [2,3,4,5,6,7,20] true ?_
  simp [go_sem, hz]
  apply k5_; clear k5_
  refine Do.cond [2,3,4,5,6,7] rfl (fun g1 => ?_) (fun g1 => ?_) <;> simp [go_sem, hz] at g1 ⊢
  refine Do.seqk fun _ k6_ => ?_
  refine Do.region [4,5,6] true ?_
  simp [go_sem, hz]
  repeat (refine And.intro (by first | omega | (intros; omega) | (intros; exact And.intro (by assumption) (by omega)) | grind) ?_)
  apply k6_; clear k6_
  refine Do.ret ?_
  simp [endQ, rets, ret1, go_sem, hz]
  repeat (refine And.intro (by first | omega | (intros; omega) | (intros; exact And.intro (by assumption) (by omega)) | grind) ?_)
  exact TLe.t (.cons (PLe.flt (ret_z rfl)) (.cons (PLe.flt (ret_z rfl)) (.cons (PLe.refl _) .nil)))
end
end Go.Proofs.YtokgalpflooegaaGreatDoor
