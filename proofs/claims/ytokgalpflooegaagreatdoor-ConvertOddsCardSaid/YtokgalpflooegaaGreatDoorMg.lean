/- The digits of the reference. No condition. The natural numbers of the reference: canonical words, lengths. No condition. Bits and shifts of the reference. No condition. The floats of the reference. No condition. The formats of the reference, and its check of arguments. No condition. What the laws' packages compute of floats. No condition. The errors of Pair and Expand. No condition. The program awake: three sums. No condition. Arguments that read as data, as cells. No condition. The order of a sum's terms; a rounded result is canonical. No condition. -/
import Derived.Test.YtokgalpflooegaaGreatDoorMf
import Derived.Test.YtokgalpflooegaaGreatDoorMd
import Derived.Test.YtokgalpflooegaaGreatDoorMe
import Derived.Test.YtokgalpflooegaaGreatDoorMc
import Derived.ChangeSlices
import Derived.ChangeArms
import Derived.WideShapes
import Derived.ProofKit
/- The digits of the reference. No condition. -/
namespace Go.Proofs.YtokgalpflooegaaGreatDoor
set_option linter.unusedVariables false
set_option linter.unusedSimpArgs false
variable {G : Gl}
set_option maxHeartbeats 2000000
attribute [go_sem] dg_len wds_len
theorem Digits_does {x : List Nat} (hx : x.length ≤ 1073741824) (hw : Ws x) : Does Tryz.prog G 104 [Wd x] (.v (Wn (dg (val x) (2 * x.length)))) := by
  refine Does.of (nt := 25) Tryz.func104 rfl rfl rfl (by simp) ?_
  simp only [argTm, PV.ext, Ce.ext]
  refine Do.seqk fun _ k1_ => ?_
  refine Do.region [0] true ?_
  simp [go_sem]
  apply k1_; clear k1_
  refine Do.seqk fun _ k2_ => ?_
  refine Do.region [0,3] true ?_
  simp [go_sem]
  apply k2_; clear k2_
  refine Do.seqk fun _ k3_ => ?_
  refine Do.seqk fun _ k4_ => ?_
  refine Do.region [0,3,4] true ?_
  simp [go_sem]
  apply k4_; clear k4_
  refine Do.block ?_
  refine Do.ownW 3 900 rfl rfl (by decide) ?_
  simp [go_sem]
  refine Do.loopF [0,3,4] (fun (i : Nat) => [(3, .v (.c (.r 900 (2 * i)))), (4, .int .i64 i)]) (fun (i : Nat) => [(900, .wr (dg (val x) (2 * i)))]) (fun (i : Nat) => i ≤ x.length) (fun (i : Nat) => x.length - i) (0) (fun _ => by first | (simp [go_sem, mixS]; done) | (simp [go_sem, mixS]; rfl)) (St.le_of (by first | rfl | simp [keep]) (by first | rfl | simp [keep])) (Nat.zero_le _) ?_
  intro i hi
  refine Do.seqk fun _ k5_ => ?_
  refine Do.seqk fun _ k6_ => ?_
  refine Do.region [0,3,4,8] true ?_
  simp [go_sem]
  repeat (refine And.intro (by first | omega | (intros; omega) | grind) ?_)
  apply k6_; clear k6_
  refine Do.cond [0,3,4] rfl (fun h => ?_) (fun h => ?_) <;> simp [go_sem] at h ⊢
  · have hg := ws_get hw h
    refine Do.skip ?_
    simp [go_sem]
    apply k5_; clear k5_
    refine Do.seqk fun _ k7_ => ?_
    refine Do.block ?_
    refine Do.draw [0,3,4] true (by kernel_rfl) ?_
    simp [go_sem, hg]
    repeat (refine And.intro (by first | omega | (intros; omega) | kernel_rfl | grind) ?_)
    try (refine And.intro (by kernel_rfl) ?_)
    apply k7_; clear k7_
    refine Do.region [0,3,4] true ?_
    simp [go_sem, hg]
    repeat (refine And.intro (by first | omega | (intros; omega) | grind) ?_)
    refine ⟨i + 1, St.le_of rfl (by simp [keep, dg_two]), by omega, by simp; omega⟩
  · refine Do.exit ?_
    simp [go_sem]
    apply k3_; clear k3_
    refine Do.seqk fun _ k8_ => ?_
    refine Do.region [2] true ?_
    simp [go_sem]
    apply k8_; clear k8_
    refine Do.ret ?_
    simp [endQ, rets, ret1, go_sem]
    repeat (refine And.intro (by first | omega | (intros; omega) | grind) ?_)
    have e : i = x.length := by omega
    subst e
    exact TLe.refl _
theorem Short_does {n k : Nat} (hk : k ≤ 4294967296) (h : n < 4294967296 ^ k) : Does Tryz.prog G 176 [Wd (dg n k)] (.v (Wd (dg n (dl n)))) := by
  refine Does.of (nt := 21) Tryz.func176 rfl rfl rfl (by simp) ?_
  simp only [argTm, PV.ext, Ce.ext]
  refine Do.seqk fun _ k1_ => ?_
  refine Do.region [0] true ?_
  simp [go_sem]
  apply k1_; clear k1_
  refine Do.seqk fun _ k2_ => ?_
  refine Do.region [0,3] true ?_
  simp [go_sem]
  repeat (refine And.intro (by first | omega | (intros; omega) | grind) ?_)
  apply k2_; clear k2_
  refine Do.seqk fun _ k3_ => ?_
  refine Do.block ?_
  refine Do.loopF [0,3] (fun (i : Nat) => [(3, .int .i64 i)]) (fun (i : Nat) => []) (fun (i : Nat) => i ≤ k ∧ n < 4294967296 ^ i) (fun (i : Nat) => i) (k) (fun _ => by first | (simp [go_sem, mixS]; done) | (simp [go_sem, mixS]; rfl)) (St.le_of (by first | rfl | simp [keep]) (by first | rfl | simp [keep])) (⟨Nat.le_refl _, h⟩) ?_
  rintro i ⟨hi, hn⟩
  refine Do.seqk fun _ k4_ => ?_
  refine Do.seqk fun _ k5_ => ?_
  refine Do.region [0,3,15] true ?_
  simp [go_sem]
  repeat (refine And.intro (by first | omega | (intros; omega) | grind) ?_)
  apply k5_; clear k5_
  refine Do.cond [0,3] rfl (fun h2 => ?_) (fun h2 => ?_) <;> simp [go_sem] at h2 ⊢
  · rw [dg_get (by omega)] at h2
    refine Do.skip ?_
    simp [go_sem]
    apply k4_; clear k4_
    refine Do.block ?_
    refine Do.region [0,3] true ?_
    simp [go_sem]
    repeat (refine And.intro (by first | omega | (intros; omega) | grind) ?_)
    refine ⟨i - 1, St.le_of (by simp [keep]; omega) rfl, ⟨by omega, dg_eq_zero hn (by simpa using h2.2) h2.1⟩, by simp; omega⟩
  · refine Do.exit ?_
    simp [go_sem]
    apply k3_; clear k3_
    refine Do.seqk fun _ k6_ => ?_
    refine Do.region [2] true ?_
    simp [go_sem]
    repeat (refine And.intro (by first | omega | (intros; omega) | grind) ?_)
    apply k6_; clear k6_
    refine Do.ret ?_
    simp [endQ, rets, ret1, go_sem]
    repeat (refine And.intro (by first | omega | (intros; omega) | grind) ?_)
    have e : dl n = i := by
      have h3 := dl_lt.2 hn
      apply Classical.byContradiction
      intro h4
      have h5 := h2 (by omega)
      rw [dg_get (by omega), dg_lt (dl_lt.1 (Nat.le_refl _)) (by omega)] at h5
      exact h5 rfl
    rw [dg_take hi, e]
    exact TLe.refl _
theorem Row_does {n k : Nat} (hk : k ≤ 4294967296) : Does Tryz.prog G 192 [Wd (dg n k)] (.v (Wn (wds n (k / 2)))) := by
  refine Does.of (nt := 27) Tryz.func192 rfl rfl rfl (by simp) ?_
  simp only [argTm, PV.ext, Ce.ext]
  refine Do.seqk fun _ k1_ => ?_
  refine Do.region [0] true ?_
  simp [go_sem]
  apply k1_; clear k1_
  refine Do.seqk fun _ k2_ => ?_
  refine Do.region [0,3] true ?_
  simp [go_sem]
  apply k2_; clear k2_
  refine Do.seqk fun _ k3_ => ?_
  refine Do.seqk fun _ k4_ => ?_
  refine Do.region [0,3,4] true ?_
  simp [go_sem]
  apply k4_; clear k4_
  refine Do.block ?_
  refine Do.ownW 3 900 rfl rfl (by decide) ?_
  simp [go_sem]
  refine Do.loopF [0,3,4] (fun (i : Nat) => [(3, .v (.c (.r 900 i))), (4, .int .i64 (2 * i))]) (fun (i : Nat) => [(900, .wr (wds n i))]) (fun (i : Nat) => 2 * i ≤ k) (fun (i : Nat) => k - i) (0) (fun _ => by first | (simp [go_sem, mixS]; done) | (simp [go_sem, mixS]; rfl)) (St.le_of (by first | rfl | simp [keep]) (by first | rfl | simp [keep])) (Nat.zero_le _) ?_
  intro i hi
  refine Do.seqk fun _ k5_ => ?_
  refine Do.seqk fun _ k6_ => ?_
  refine Do.region [0,3,4,9] true ?_
  simp [go_sem]
  repeat (refine And.intro (by first | omega | (intros; omega) | grind) ?_)
  apply k6_; clear k6_
  refine Do.cond [0,3,4] rfl (fun h => ?_) (fun h => ?_) <;> simp [go_sem] at h ⊢
  · obtain ⟨a, b, hg1, hg2, ha, hb, hab⟩ := dg_pair (n := n) (k := k) (i := i) (by omega)
    refine Do.skip ?_
    simp [go_sem]
    apply k5_; clear k5_
    refine Do.seqk fun _ k7_ => ?_
    refine Do.block ?_
    refine Do.draw [0,3,4] true (by kernel_rfl) ?_
    simp [go_sem, hg1, hg2, show ((2 : Int) * i).toNat = 2 * i by omega, show ((2 : Int) * i + 1).toNat = 2 * i + 1 by omega]
    repeat (refine And.intro (by first | omega | (intros; omega) | kernel_rfl | grind) ?_)
    try (refine And.intro (by kernel_rfl) ?_)
    apply k7_; clear k7_
    refine Do.region [0,3,4] true ?_
    simp [go_sem, hg1, hg2, show ((2 : Int) * i).toNat = 2 * i by omega, show ((2 : Int) * i + 1).toNat = 2 * i + 1 by omega]
    repeat (refine And.intro (by first | omega | (intros; omega) | grind) ?_)
    refine ⟨i + 1, St.le_of (by simp [keep]; omega) (by simp [keep, wds_snoc, hab]), by omega, by simp; omega⟩
  · refine Do.exit ?_
    simp [go_sem]
    apply k3_; clear k3_
    refine Do.seqk fun _ k8_ => ?_
    refine Do.region [2] true ?_
    simp [go_sem]
    apply k8_; clear k8_
    refine Do.ret ?_
    simp [endQ, rets, ret1, go_sem]
    repeat (refine And.intro (by first | omega | (intros; omega) | grind) ?_)
    rw [show k / 2 = i by omega]
    exact TLe.refl _
end Go.Proofs.YtokgalpflooegaaGreatDoor
/- The natural numbers of the reference: canonical words, lengths. No condition. -/
namespace Go.Proofs.YtokgalpflooegaaGreatDoor
set_option linter.unusedVariables false
set_option linter.unusedSimpArgs false
variable {G : Gl}
set_option maxHeartbeats 2000000
theorem Cut_does {n k m : Nat} (hk : k ≤ 2147483648) (hm : m ≤ 1073741824) (h : n < 4294967296 ^ k) : Does Tryz.prog G 177 [Wd (dg n k), .c (.i .i64 m)] (.t [Wn (wds n m), .c (.n (n / 18446744073709551616 ^ m % 18446744073709551616))]) := by
  have hz : ∀ j, k ≤ j → n / 4294967296 ^ j % 4294967296 = 0 := fun j hj => dg_lt h hj
  clear h
  refine Does.of (nt := 37) Tryz.func177 rfl rfl rfl (by simp) ?_
  simp only [argTm, PV.ext, Ce.ext]
  refine Do.seqk fun _ k1_ => ?_
  refine Do.region [0,1] true ?_
  simp [go_sem]
  apply k1_; clear k1_
  refine Do.seqk fun _ k2_ => ?_
  refine Do.region [0,1,6] true ?_
  simp [go_sem]
  apply k2_; clear k2_
  refine Do.seqk fun _ k3_ => ?_
  refine Do.ownW 6 900 rfl rfl (by decide) ?_
  refine Do.region [1,6] true ?_
  simp [go_sem]
  repeat (refine And.intro (by first | omega | (intros; omega) | grind) ?_)
  apply k3_; clear k3_
  refine Do.seqk fun _ k4_ => ?_
  refine Do.block ?_
  refine Do.loopF [1,6] (fun (j : Nat) => [(6, .v (.c (.r 900 j)))]) (fun (j : Nat) => [(900, .wr (dg n j))]) (fun (j : Nat) => k ≤ j ∧ (j ≤ k ∨ j ≤ 2 * m + 2)) (fun (j : Nat) => 2 * m + 2 - j) (k) (fun _ => by first | (simp [go_sem, mixS]; done) | (simp [go_sem, mixS]; rfl)) (St.le_of (by first | rfl | simp [keep]) (by first | rfl | simp [keep])) (⟨Nat.le_refl _, .inl (Nat.le_refl _)⟩) ?_
  rintro j ⟨hj, hj2⟩
  refine Do.seqk fun _ k5_ => ?_
  refine Do.seqk fun _ k6_ => ?_
  refine Do.region [1,6,15] true ?_
  simp [go_sem]
  repeat (refine And.intro (by first | omega | (intros; omega) | grind) ?_)
  apply k6_; clear k6_
  refine Do.cond [1,6] rfl (fun h2 => ?_) (fun h2 => ?_) <;> simp [go_sem] at h2 ⊢
  · refine Do.skip ?_
    simp [go_sem]
    apply k5_; clear k5_
    refine Do.block ?_
    refine Do.region [1,6] true ?_
    simp [go_sem]
    repeat (refine And.intro (by first | omega | (intros; omega) | grind) ?_)
    refine ⟨j + 1, St.le_of rfl (by simp [keep, dg_snoc, hz j hj]), by omega, by simp; omega⟩
  · obtain ⟨a, b, hg1, hg2, ha, hb, hab⟩ := dg_pair (n := n) (k := j) (i := m) (by omega)
    have htk : List.take (2 * m) (dg n j) = dg n (2 * m) := dg_take (by omega)
    refine Do.exit ?_
    simp [go_sem]
    apply k4_; clear k4_
    refine Do.seqk fun _ k7_ => ?_
    refine Do.frz 900 rfl ?_
    refine Do.draw [4,5] true (by kernel_rfl) ?_
    simp [go_sem, hg1, hg2, htk, show ((2 : Int) * m).toNat = 2 * m by omega, show ((2 : Int) * m + 1).toNat = 2 * m + 1 by omega]
    repeat (refine And.intro (by first | omega | (intros; omega) | kernel_rfl | grind) ?_)
    refine DoLD.call true 505 rfl rfl rfl rfl (by first | exact trivial | omega | (simp; done) | (simp; omega)) (Row_does (n := n) (k := 2 * m) (by omega)) rfl (by first | exact .inl rfl | exact .inr rfl) rfl ?_
    simp [go_sem, hg1, hg2, htk, show ((2 : Int) * m).toNat = 2 * m by omega, show ((2 : Int) * m + 1).toNat = 2 * m + 1 by omega]
    repeat (refine And.intro (by first | omega | (intros; omega) | kernel_rfl | grind) ?_)
    try (refine And.intro (by kernel_rfl) ?_)
    apply k7_; clear k7_
    refine Do.ret ?_
    simp [endQ, rets, ret1, go_sem, hg1, hg2, htk, show ((2 : Int) * m).toNat = 2 * m by omega, show ((2 : Int) * m + 1).toNat = 2 * m + 1 by omega]
    repeat (refine And.intro (by first | omega | (intros; omega) | grind) ?_)
    rw [hab]
    exact TLe.refl _
theorem rnat_does {n k : Nat} (hk : k ≤ 2147483648) (h : n < 4294967296 ^ k) : Does Tryz.prog G 140 [Wd (dg n k)] (.v (Wn (nat n))) := by
  have hl := dl_lt.2 h
  have hc := @Cut_does G n (dl n) ((dl n + 1) / 2) (by omega) (by omega) (dl_lt.1 (Nat.le_refl _))
  have hs := @Short_does G n k (by omega) h
  rw [nat_dl] at hc
  generalize n / 18446744073709551616 ^ ((dl n + 1) / 2) % 18446744073709551616 = z at hc
  refine Does.of (nt := 19) Tryz.func140 rfl rfl rfl (by simp) ?_
  simp only [argTm, PV.ext, Ce.ext]
  refine Do.seqk fun _ k1_ => ?_
  refine Do.region [0] true ?_
  simp [go_sem]
  apply k1_; clear k1_
  refine Do.seqk fun _ k2_ => ?_
  refine Do.region [0] true ?_
  simp [go_sem]
  refine DoL.call true 102 rfl rfl rfl rfl (by first | exact trivial | omega | (simp; done) | (simp; omega)) (hs) rfl (by first | exact .inl rfl | exact .inr rfl) rfl ?_
  simp [go_sem]
  apply k2_; clear k2_
  refine Do.seqk fun _ k3_ => ?_
  refine Do.region [0,3] true ?_
  simp [go_sem]
  repeat (refine And.intro (by first | omega | (intros; omega) | grind) ?_)
  rw [show ((dl n : Int) + 1) / 2 = (((dl n + 1) / 2 : Nat) : Int) by omega]
  apply k3_; clear k3_
  refine Do.seqk fun _ k4_ => ?_
  refine Do.region [4] true ?_
  simp [go_sem]
  refine DoL.call true 303 rfl rfl rfl rfl (by first | exact trivial | omega | (simp; done) | (simp; omega)) (hc) rfl (by first | exact .inl rfl | exact .inr rfl) rfl ?_
  simp [go_sem]
  apply k4_; clear k4_
  refine Do.seqk fun _ k5_ => ?_
  refine Do.region [2] true ?_
  simp [go_sem]
  apply k5_; clear k5_
  refine Do.ret ?_
  simp [endQ, rets, ret1, go_sem]
  repeat (refine And.intro (by first | omega | (intros; omega) | grind) ?_)
  exact TLe.refl _
theorem RTrim_does {x : List Nat} (hx : x.length ≤ 1073741824) (hw : Ws x) : Does Tryz.prog G 118 [Wd x] (.v (Wn (nat (val x)))) := by
  have hn := @rnat_does G (val x) (2 * x.length) (by omega) (by have := val_lt hw; rwa [HB] at this)
  refine Does.of (nt := 6) Tryz.func118 rfl rfl rfl (by simp) ?_
  simp only [argTm, PV.ext, Ce.ext]
  refine Do.seqk fun _ k1_ => ?_
  refine Do.region [0] true ?_
  simp [go_sem]
  apply k1_; clear k1_
  refine Do.seqk fun _ k2_ => ?_
  refine Do.region [2] true ?_
  simp [go_sem]
  refine DoL.call true 102 rfl rfl rfl rfl (by first | exact trivial | omega | (simp; done) | (simp; omega)) (Digits_does hx hw) rfl (by first | exact .inl rfl | exact .inr rfl) rfl ?_
  simp [go_sem]
  refine DoL.call true 103 rfl rfl rfl rfl (by first | exact trivial | omega | (simp; done) | (simp; omega)) (hn) rfl (by first | exact .inl rfl | exact .inr rfl) rfl ?_
  simp [go_sem]
  apply k2_; clear k2_
  refine Do.ret ?_
  simp [endQ, rets, ret1, go_sem]
  repeat (refine And.intro (by first | omega | (intros; omega) | grind) ?_)
  exact TLe.refl _
/-- The lowest bit 1 among i bits; how many are 1. -/
def trl (w : Nat) : Nat → Int
  | 0 => 64
  | i + 1 => if w / 2 ^ i % 2 = 1 then (if (i : Int) < trl w i then i else trl w i) else trl w i
def ones (w : Nat) : Nat → Int
  | 0 => 0
  | i + 1 => if w / 2 ^ i % 2 = 1 then ones w i + 1 else ones w i
theorem ones_le (w : Nat) : ∀ i, 0 ≤ ones w i ∧ ones w i ≤ i
  | 0 => by simp [ones]
  | i + 1 => by have := ones_le w i; simp only [ones]; split <;> omega
theorem bl_bit (w i : Nat) : bl (w % 2 ^ (i + 1)) = if w / 2 ^ i % 2 = 1 then i + 1 else bl (w % 2 ^ i) := by
  rw [Nat.pow_succ, Nat.mod_mul]
  have h1 : w % 2 ^ i < 2 ^ i := Nat.mod_lt _ (Nat.pow_pos (by decide))
  split
  · rename_i h; rw [h]
    exact bl_add h1 (by decide)
  · rename_i h; rw [show w / 2 ^ i % 2 = 0 by omega]; simp
theorem bl_le_i (w i : Nat) : bl (w % 2 ^ i) ≤ i := (bl_lt _ _).2 (Nat.mod_lt _ (Nat.pow_pos (by decide)))
theorem Count_does {w : Nat} (hw : w < 18446744073709551616) : Does Tryz.prog G 166 [.c (.n w)] (.t [.c (.i .i64 (64 - bl w)), .c (.i .i64 (trl w 64)), .c (.i .i64 (ones w 64))]) := by
  refine Does.of (nt := 28) Tryz.func166 rfl rfl rfl (by simp) ?_
  simp only [argTm, PV.ext, Ce.ext]
  refine Do.seqk fun _ k1_ => ?_
  refine Do.region [0] true ?_
  simp [go_sem]
  apply k1_; clear k1_
  refine Do.seqk fun _ k2_ => ?_
  refine Do.region [0,5,6,7] true ?_
  simp [go_sem]
  apply k2_; clear k2_
  refine Do.seqk fun _ k3_ => ?_
  refine Do.seqk fun _ k4_ => ?_
  refine Do.region [0,5,6,7,8] true ?_
  simp [go_sem]
  apply k4_; clear k4_
  refine Do.block ?_
  refine Do.loopF [0,5,6,7,8] (fun (i : Nat) => [(5, .int .i64 (64 - bl (w % 2 ^ i))), (6, .int .i64 (trl w i)), (7, .int .i64 (ones w i)), (8, .int .i64 i)]) (fun (i : Nat) => []) (fun (i : Nat) => i ≤ 64) (fun (i : Nat) => 64 - i) (0) (fun _ => by first | (simp [go_sem, mixS]; done) | (simp [go_sem, mixS]; rfl)) (St.le_of (by simp [keep, Nat.mod_one, bl_zero, trl, ones]) rfl) (Nat.zero_le _) ?_
  intro i hi
  have hb := bl_bit w i
  have ho := ones_le w i
  have hbl := bl_le_i w i
  refine Do.seqk fun _ k5_ => ?_
  refine Do.seqk fun _ k6_ => ?_
  refine Do.region [0,5,6,7,8,10] true ?_
  simp [go_sem]
  apply k6_; clear k6_
  refine Do.cond [0,5,6,7,8] rfl (fun h => ?_) (fun h => ?_) <;> simp [go_sem] at h ⊢
  · refine Do.skip ?_
    simp [go_sem]
    apply k5_; clear k5_
    refine Do.seqk fun _ k7_ => ?_
    refine Do.block ?_
    refine Do.seqk fun _ k8_ => ?_
    refine Do.region [0,5,6,7,8,17] true ?_
    simp [go_sem]
    repeat (refine And.intro (by first | omega | (intros; omega) | grind) ?_)
    have hd : w / 2 ^ i < 18446744073709551616 := Nat.lt_of_le_of_lt (Nat.div_le_self _ _) hw
    apply k8_; clear k8_
    refine Do.cond [0,5,6,7,8] rfl (fun h2 => ?_) (fun h2 => ?_) <;> simp [go_sem] at h2 ⊢
    · rw [if_pos h2] at hb
      refine Do.seqk fun _ k9_ => ?_
      refine Do.region [0,5,6,7,8] true ?_
      simp [go_sem]
      repeat (refine And.intro (by first | omega | (intros; omega) | grind) ?_)
      apply k9_; clear k9_
      refine Do.seqk fun _ k10_ => ?_
      refine Do.region [0,5,6,7,8] true ?_
      simp [go_sem]
      repeat (refine And.intro (by first | omega | (intros; omega) | grind) ?_)
      apply k10_; clear k10_
      refine Do.region [0,5,6,7,8] true ?_
      simp [go_sem]
      repeat (refine And.intro (by first | omega | (intros; omega) | grind) ?_)
      apply k7_; clear k7_
      refine Do.region [0,5,6,7,8] true ?_
      simp [go_sem]
      repeat (refine And.intro (by first | omega | (intros; omega) | grind) ?_)
      refine ⟨i + 1, St.le_of ?_ rfl, by omega, by simp; omega⟩
      simp [keep, hb, trl, ones, h2]
      omega
    · rw [if_neg (by omega)] at hb
      refine Do.skip ?_
      simp [go_sem]
      apply k7_; clear k7_
      refine Do.region [0,5,6,7,8] true ?_
      simp [go_sem]
      repeat (refine And.intro (by first | omega | (intros; omega) | grind) ?_)
      refine ⟨i + 1, St.le_of (by simp [keep, hb, trl, ones, h2]) rfl, by omega, by simp; omega⟩
  · refine Do.exit ?_
    simp [go_sem]
    apply k3_; clear k3_
    refine Do.seqk fun _ k11_ => ?_
    refine Do.region [2,3,4] true ?_
    simp [go_sem]
    apply k11_; clear k11_
    refine Do.ret ?_
    simp [endQ, rets, ret1, go_sem]
    repeat (refine And.intro (by first | omega | (intros; omega) | grind) ?_)
    have e : i = 64 := by omega
    subst e
    rw [Nat.mod_eq_of_lt (show w < 2 ^ 64 from hw)]
    exact TLe.refl _
theorem bl_top {n k : Nat} (h : n < 18446744073709551616 ^ (k + 1)) (h0 : n / 18446744073709551616 ^ k % 18446744073709551616 ≠ 0) : bl n = 64 * k + bl (n / 18446744073709551616 ^ k % 18446744073709551616) := by
  have h1 : n / 18446744073709551616 ^ k < 18446744073709551616 := by rw [Nat.div_lt_iff_lt_mul (Nat.pow_pos (by decide))]; rw [Nat.pow_succ, Nat.mul_comm] at h; exact h
  rw [Nat.mod_eq_of_lt h1] at h0 ⊢
  rw [B64_pow] at h0 h1 ⊢
  have := bl_add (lo := n % 2 ^ (64 * k)) (hi := n / 2 ^ (64 * k)) (m := 64 * k) (Nat.mod_lt _ (Nat.pow_pos (by decide))) (Nat.pos_of_ne_zero h0)
  rwa [Nat.mod_add_div] at this
theorem lt_down {n k : Nat} (h : n < 18446744073709551616 ^ (k + 1)) (h0 : n / 18446744073709551616 ^ k % 18446744073709551616 = 0) : n < 18446744073709551616 ^ k := by
  have h1 : n / 18446744073709551616 ^ k < 18446744073709551616 := by rw [Nat.div_lt_iff_lt_mul (Nat.pow_pos (by decide))]; rw [Nat.pow_succ, Nat.mul_comm] at h; exact h
  rw [Nat.mod_eq_of_lt h1, Nat.div_eq_zero_iff] at h0
  rcases h0 with h0 | h0
  · have := Nat.pow_pos (n := k) (show 0 < 18446744073709551616 by decide); omega
  · exact h0
theorem RLen_does {x : List Nat} (hx : x.length ≤ 1073741824) (hw : Ws x) : Does Tryz.prog G 116 [Wd x] (.int .i64 (bl (val x))) := by
  refine Does.of (nt := 33) Tryz.func116 rfl rfl rfl (by simp) ?_
  simp only [argTm, PV.ext, Ce.ext]
  refine Do.seqk fun _ k1_ => ?_
  refine Do.region [0] true ?_
  simp [go_sem]
  apply k1_; clear k1_
  refine Do.seqk fun _ k2_ => ?_
  refine Do.seqk fun _ k3_ => ?_
  refine Do.region [0,3] true ?_
  simp [go_sem]
  repeat (refine And.intro (by first | omega | (intros; omega) | grind) ?_)
  apply k3_; clear k3_
  refine Do.block ?_
  refine Do.loopF [0,3] (fun (i : Nat) => [(3, .int .i64 ((i : Int) - 1))]) (fun (i : Nat) => []) (fun (i : Nat) => i ≤ x.length ∧ val x < 18446744073709551616 ^ i) (fun (i : Nat) => i) (x.length) (fun _ => by first | (simp [go_sem, mixS]; done) | (simp [go_sem, mixS]; rfl)) (St.le_of (by first | rfl | simp [keep]) (by first | rfl | simp [keep])) (⟨Nat.le_refl _, val_lt hw⟩) ?_
  rintro i ⟨hi, hv⟩
  refine Do.seqk fun _ k4_ => ?_
  refine Do.seqk fun _ k5_ => ?_
  refine Do.region [0,3,11] true ?_
  simp [go_sem]
  apply k5_; clear k5_
  refine Do.cond [0,3] rfl (fun h => ?_) (fun h => ?_) <;> simp [go_sem] at h ⊢
  · obtain ⟨k, rfl⟩ : ∃ k, i = k + 1 := ⟨i - 1, by omega⟩
    have hg := ws_get hw (i := k) (by omega)
    obtain ⟨w, hwd⟩ : ∃ w, val x / 18446744073709551616 ^ k % 18446744073709551616 = w := ⟨_, rfl⟩
    have hlt : w < 18446744073709551616 := hwd ▸ Nat.mod_lt _ (by decide)
    rw [hwd] at hg
    have hbl := bl_word hlt
    refine Do.skip ?_
    simp [go_sem]
    apply k4_; clear k4_
    refine Do.seqk fun _ k6_ => ?_
    refine Do.block ?_
    refine Do.seqk fun _ k7_ => ?_
    refine Do.region [0,3,18] true ?_
    simp [go_sem, hg, show (((k + 1 : Nat) : Int) - 1).toNat = k by omega]
    repeat (refine And.intro (by first | omega | (intros; omega) | grind) ?_)
    apply k7_; clear k7_
    refine Do.cond [0,3] rfl (fun h2 => ?_) (fun h2 => ?_) <;> simp [go_sem, hg, show (((k + 1 : Nat) : Int) - 1).toNat = k by omega] at h2 ⊢
    · refine Do.seqk fun _ k8_ => ?_
      refine Do.region [3,4] true ?_
      simp [go_sem, hg, show (((k + 1 : Nat) : Int) - 1).toNat = k by omega]
      repeat (refine And.intro (by first | omega | (intros; omega) | grind) ?_)
      refine DoL.call true 505 rfl rfl rfl rfl (by first | exact trivial | omega | (simp; done) | (simp; omega)) (Count_does hlt) rfl (by first | exact .inl rfl | exact .inr rfl) rfl ?_
      simp [go_sem, hg, show (((k + 1 : Nat) : Int) - 1).toNat = k by omega]
      apply k8_; clear k8_
      refine Do.seqk fun _ k9_ => ?_
      refine Do.region [2] true ?_
      simp [go_sem, hg, show (((k + 1 : Nat) : Int) - 1).toNat = k by omega]
      repeat (refine And.intro (by first | omega | (intros; omega) | grind) ?_)
      apply k9_; clear k9_
      refine Do.ret ?_
      simp [endQ, rets, ret1, go_sem, hg, show (((k + 1 : Nat) : Int) - 1).toNat = k by omega]
      repeat (refine And.intro (by first | omega | (intros; omega) | grind) ?_)
      refine ret_i ?_
      have := bl_top hv (by rw [hwd]; exact h2)
      rw [hwd] at this
      omega
    · refine Do.skip ?_
      simp [go_sem]
      apply k6_; clear k6_
      refine Do.region [0,3] true ?_
      simp [go_sem, hg, show (((k + 1 : Nat) : Int) - 1).toNat = k by omega]
      repeat (refine And.intro (by first | omega | (intros; omega) | grind) ?_)
      refine ⟨k, St.le_of (by first | rfl | simp [keep]) (by first | rfl | simp [keep]), ⟨by omega, lt_down hv (by rw [hwd]; exact h2)⟩, by first | (simp; done) | (simp; omega)⟩
  · refine Do.exit ?_
    simp [go_sem]
    apply k2_; clear k2_
    refine Do.seqk fun _ k10_ => ?_
    refine Do.region [2] true ?_
    simp [go_sem]
    apply k10_; clear k10_
    refine Do.ret ?_
    simp [endQ, rets, ret1, go_sem]
    repeat (refine And.intro (by first | omega | (intros; omega) | grind) ?_)
    refine ret_i ?_
    have e : i = 0 := by omega
    subst e
    have : val x = 0 := by simpa using hv
    rw [this]; rfl
theorem IsZero_does {x : List Nat} (hx : x.length ≤ 1073741824) (hw : Ws x) : Does Tryz.prog G 67 [Wd x] (.v (.c (.b (decide (val x = 0))))) := by
  refine Does.of (nt := 6) Tryz.func67 rfl rfl rfl (by simp) ?_
  simp only [argTm, PV.ext, Ce.ext]
  refine Do.seqk fun _ k1_ => ?_
  refine Do.region [0] true ?_
  simp [go_sem]
  apply k1_; clear k1_
  refine Do.seqk fun _ k2_ => ?_
  refine Do.region [2] true ?_
  simp [go_sem]
  refine DoL.call true 102 rfl rfl rfl rfl (by first | exact trivial | omega | (simp; done) | (simp; omega)) (RLen_does hx hw) rfl (by first | exact .inl rfl | exact .inr rfl) rfl ?_
  simp [go_sem]
  apply k2_; clear k2_
  refine Do.ret ?_
  simp [endQ, rets, ret1, go_sem]
  repeat (refine And.intro (by first | omega | (intros; omega) | grind) ?_)
  refine ret_b ?_
  by_cases h : val x = 0
  · simp [h, bl_zero]
  · have := bl_pos (Nat.pos_of_ne_zero h)
    simp [h]; omega
end Go.Proofs.YtokgalpflooegaaGreatDoor
/- Bits and shifts of the reference. No condition. -/
namespace Go.Proofs.YtokgalpflooegaaGreatDoor
set_option linter.unusedVariables false
set_option linter.unusedSimpArgs false
variable {G : Gl}
set_option maxHeartbeats 2000000
theorem bit_eq {x : List Nat} (hw : Ws x) (i : Int) : (decide (0 ≤ i) && decide (i / 64 < ↑x.length) && x[(i / 64).toNat]?.getD 0 / 2 ^ (i % 64).toNat % 2 == 1) = (decide (0 ≤ i) && decide (val x / 2 ^ i.toNat % 2 = 1)) := by
  rw [Bool.eq_iff_iff, val_bit hw]
  simp
  constructor
  · rintro ⟨⟨a, b⟩, c⟩
    refine ⟨a, ?_⟩
    rwa [show i.toNat / 64 = (i / 64).toNat by omega, show i.toNat % 64 = (i % 64).toNat by omega]
  · rintro ⟨a, c⟩
    rw [show i.toNat / 64 = (i / 64).toNat by omega, show i.toNat % 64 = (i % 64).toNat by omega] at c
    refine ⟨⟨a, ?_⟩, c⟩
    apply Classical.byContradiction
    intro hn
    rw [List.getElem?_eq_none (by omega)] at c
    simp at c
theorem RBit_does {x : List Nat} (hx : x.length ≤ 1073741824) (hw : Ws x) {i : Int} (hi : I64 i) : Does Tryz.prog G 74 [Wd x, .c (.i .i64 i)] (.v (.c (.b (decide (0 ≤ i) && decide (val x / 2 ^ i.toNat % 2 = 1))))) := by
  have hb := hw.get (i / 64).toNat
  obtain ⟨h0, h1⟩ := hi
  refine Does.of (nt := 26) Tryz.func74 rfl rfl rfl (by simp) ?_
  simp only [argTm, PV.ext, Ce.ext]
  refine Do.seqk fun _ k1_ => ?_
  refine Do.region [0,1] true ?_
  simp [go_sem]
  apply k1_; clear k1_
  refine Do.seqk fun _ k2_ => ?_
  refine Do.region [4] true ?_
  simp [go_sem]
  repeat (refine And.intro (by first | omega | (intros; omega) | grind) ?_)
  apply k2_; clear k2_
  refine Do.ret ?_
  simp [endQ, rets, ret1, go_sem]
  repeat (refine And.intro (by first | omega | (intros; omega) | grind) ?_)
  rw [bit_eq hw]
  exact TLe.refl _
/-- How many bits are 1. -/
def pc (n : Nat) : Nat := if h : n = 0 then 0 else n % 2 + pc (n / 2)
termination_by n
decreasing_by omega
theorem pc_zero : pc 0 = 0 := by unfold pc; simp
theorem pc_step (n i : Nat) : pc (n / 2 ^ i) = n / 2 ^ i % 2 + pc (n / 2 ^ (i + 1)) := by
  rw [Nat.pow_succ, ← Nat.div_div_eq_div_mul]
  generalize n / 2 ^ i = m
  by_cases h : m = 0
  · subst h; simp [pc_zero]
  · conv => lhs; unfold pc
    rw [dif_neg h]
theorem tz_odd1 {m : Nat} (h : m % 2 = 1) : tz m = 0 := by unfold tz; rw [dif_neg (by omega), if_pos h]
theorem tz_even {m : Nat} (h : m % 2 = 0) (h0 : m ≠ 0) : tz m = 1 + tz (m / 2) := by conv => lhs; unfold tz
                                                                                     rw [dif_neg h0, if_neg (by omega)]
theorem pc_le (n : Nat) : pc n ≤ bl n := by
  induction n using Nat.strongRecOn with
  | _ n ih =>
    by_cases h : n = 0
    · subst h; simp [pc_zero]
    · unfold pc; rw [dif_neg h]
      have h1 := ih (n / 2) (by omega)
      have h2 : bl n = 1 + bl (n / 2) ∨ n = 1 := by
        by_cases h1 : n = 1
        · exact .inr h1
        · have := bl_add (lo := n % 2) (hi := n / 2) (m := 1) (by omega) (by omega)
          rw [show n % 2 + 2 ^ 1 * (n / 2) = n by omega] at this
          exact .inl this
      rcases h2 with h2 | h2
      · omega
      · subst h2; have : pc 0 = 0 := pc_zero; simp [this]; decide
/-- The lowest bit 1 of those from i on. -/
def tzAt (n i : Nat) : Nat := if n / 2 ^ i = 0 then 0 else i + tz (n / 2 ^ i)
theorem tzAt_zero (n : Nat) : tzAt n 0 = tz n := by
  unfold tzAt
  simp only [Nat.pow_zero, Nat.div_one]
  split
  · rename_i h; rw [h, tz_zero]
  · simp
theorem tzAt_top (n : Nat) : tzAt n (bl n) = 0 := by unfold tzAt; rw [Nat.div_eq_of_lt (bl_self n)]; rfl
theorem tzAt_one {n k : Nat} (h : n / 2 ^ k % 2 = 1) : tzAt n k = k := by unfold tzAt; rw [if_neg (by omega), tz_odd1 h]; rfl
theorem tzAt_none {n k : Nat} (h : n / 2 ^ k % 2 = 0) : tzAt n k = tzAt n (k + 1) := by
  unfold tzAt
  rw [Nat.pow_succ, ← Nat.div_div_eq_div_mul]
  generalize n / 2 ^ k = m at *
  by_cases h0 : m = 0
  · subst h0; rfl
  · rw [if_neg h0, if_neg (by omega), tz_even h h0]; omega
/-- How many bits from i on are 1. -/
def pcAt (n i : Nat) : Nat := pc (n / 2 ^ i)
theorem pcAt_step (n k : Nat) : pcAt n k = n / 2 ^ k % 2 + pcAt n (k + 1) := pc_step n k
theorem pcAt_le (n k : Nat) : pcAt n k ≤ bl n := Nat.le_trans (pc_le _) (bl_mono (Nat.div_le_self _ _))
theorem Bits_does {x : List Nat} (hx : x.length ≤ 1073741824) (hw : Ws x) : Does Tryz.prog G 132 [Wd x] (.t [.c (.i .i64 (tz (val x))), .c (.i .i64 (pc (val x)))]) := by
  have hbl := bl_le_len hw (Nat.le_refl (val x))
  refine Does.of (nt := 22) Tryz.func132 rfl rfl rfl (by simp) ?_
  simp only [argTm, PV.ext, Ce.ext]
  refine Do.seqk fun _ k1_ => ?_
  refine Do.region [0] true ?_
  simp [go_sem]
  apply k1_; clear k1_
  refine Do.seqk fun _ k2_ => ?_
  refine Do.region [0,4,5] true ?_
  simp [go_sem]
  apply k2_; clear k2_
  refine Do.seqk fun _ k3_ => ?_
  refine Do.seqk fun _ k4_ => ?_
  refine Do.region [0,4,5,6] true ?_
  simp [go_sem]
  refine DoL.call true 202 rfl rfl rfl rfl (by first | exact trivial | omega | (simp; done) | (simp; omega)) (RLen_does hx hw) rfl (by first | exact .inl rfl | exact .inr rfl) rfl ?_
  simp [go_sem]
  repeat (refine And.intro (by first | omega | (intros; omega) | grind) ?_)
  apply k4_; clear k4_
  refine Do.block ?_
  refine Do.loopF [0,4,5,6] (fun (i : Nat) => [(4, .int .i64 (tzAt (val x) i)), (5, .int .i64 (pcAt (val x) i)), (6, .int .i64 ((i : Int) - 1))]) (fun (i : Nat) => []) (fun (i : Nat) => i ≤ bl (val x)) (fun (i : Nat) => i) (bl (val x)) (fun _ => by first | (simp [go_sem, mixS]; done) | (simp [go_sem, mixS]; rfl)) (St.le_of (by simp [keep, tzAt_top, show pcAt (val x) (bl (val x)) = 0 by rw [pcAt, Nat.div_eq_of_lt (bl_self _), pc_zero]]) rfl) (Nat.le_refl _) ?_
  intro i hi
  refine Do.seqk fun _ k5_ => ?_
  refine Do.seqk fun _ k6_ => ?_
  refine Do.region [0,4,5,6,11] true ?_
  simp [go_sem]
  apply k6_; clear k6_
  refine Do.cond [0,4,5,6] rfl (fun h => ?_) (fun h => ?_) <;> simp [go_sem] at h ⊢
  · obtain ⟨k, rfl⟩ : ∃ k, i = k + 1 := ⟨i - 1, by omega⟩
    have hbit := @RBit_does G x hx hw (k : Int) (by constructor <;> omega)
    rw [Int.toNat_natCast, show decide (0 ≤ (k : Int)) = true by simp, Bool.true_and] at hbit
    have hp := pcAt_step (val x) k
    have hpl := pcAt_le (val x) (k + 1)
    have hpl2 := pcAt_le (val x) k
    refine Do.skip ?_
    simp [go_sem]
    apply k5_; clear k5_
    refine Do.seqk fun _ k7_ => ?_
    refine Do.block ?_
    refine Do.seqk fun _ k8_ => ?_
    refine Do.region [0,4,5,6,16] true ?_
    simp [go_sem]
    refine DoL.call true 503 rfl rfl rfl rfl (by first | exact trivial | omega | (simp; done) | (simp; omega)) (hbit) rfl (by first | exact .inl rfl | exact .inr rfl) rfl ?_
    simp [go_sem]
    apply k8_; clear k8_
    refine Do.cond [0,4,5,6] rfl (fun h2 => ?_) (fun h2 => ?_) <;> simp [go_sem] at h2 ⊢
    · rw [h2] at hp
      refine Do.seqk fun _ k9_ => ?_
      refine Do.region [0,4,5,6] true ?_
      simp [go_sem]
      apply k9_; clear k9_
      refine Do.region [0,4,5,6] true ?_
      simp [go_sem]
      repeat (refine And.intro (by first | omega | (intros; omega) | grind) ?_)
      apply k7_; clear k7_
      refine Do.region [0,4,5,6] true ?_
      simp [go_sem]
      repeat (refine And.intro (by first | omega | (intros; omega) | grind) ?_)
      refine ⟨k, St.le_of (by simp [keep, hp, tzAt_one h2]; omega) rfl, by omega, by simp⟩
    · rw [h2] at hp
      refine Do.skip ?_
      simp [go_sem]
      apply k7_; clear k7_
      refine Do.region [0,4,5,6] true ?_
      simp [go_sem]
      repeat (refine And.intro (by first | omega | (intros; omega) | grind) ?_)
      refine ⟨k, St.le_of (by simp [keep, hp, tzAt_none h2]) rfl, by omega, by simp⟩
  · refine Do.exit ?_
    simp [go_sem]
    apply k3_; clear k3_
    refine Do.seqk fun _ k10_ => ?_
    refine Do.region [2,3] true ?_
    simp [go_sem]
    apply k10_; clear k10_
    refine Do.ret ?_
    simp [endQ, rets, ret1, go_sem]
    repeat (refine And.intro (by first | omega | (intros; omega) | grind) ?_)
    have e : i = 0 := by omega
    subst e
    rw [tzAt_zero, pcAt, Nat.pow_zero, Nat.div_one]
    exact TLe.refl _
theorem rshr_word (m : Nat) {s : Nat} (hs : s < 64) : m / 18446744073709551616 % 2 ^ s * 2 ^ (64 - s) + m % 18446744073709551616 / 2 ^ s = m / 2 ^ s % 18446744073709551616 := by
  have hB : (18446744073709551616 : Nat) = 2 ^ s * 2 ^ (64 - s) := by rw [← Nat.pow_add, show s + (64 - s) = 64 by omega]
  have hB2 : (18446744073709551616 : Nat) = 2 ^ (64 - s) * 2 ^ s := by rw [hB, Nat.mul_comm]
  have e1 : m % 18446744073709551616 / 2 ^ s = m / 2 ^ s % 2 ^ (64 - s) := by rw [hB, Nat.mod_mul_right_div_self]
  have e2 : m / 2 ^ s % 18446744073709551616 = m / 2 ^ s % 2 ^ (64 - s) + 2 ^ (64 - s) * (m / 2 ^ s / 2 ^ (64 - s) % 2 ^ s) := by rw [hB2, Nat.mod_mul]
  rw [e1, e2, Nat.div_div_eq_div_mul, ← hB, Nat.mul_comm (2 ^ (64 - s)), Nat.add_comm]
theorem shl_word (w : Nat) {s : Nat} (hs : s < 64) : w * 2 ^ (64 - s) % 18446744073709551616 = w % 2 ^ s * 2 ^ (64 - s) := by
  have hB : (18446744073709551616 : Nat) = 2 ^ s * 2 ^ (64 - s) := by rw [← Nat.pow_add, show s + (64 - s) = 64 by omega]
  rw [hB, Nat.mul_mod_mul_right]
theorem set_low {L : List Nat} {i w : Nat} (h : L[i]? = some w) : (List.replicate (i + 1) 0 ++ L.drop (i + 1)).set i w = List.replicate i 0 ++ L.drop i := by
  have hi : i < L.length := (List.getElem?_eq_some_iff.1 h).1
  have hw : L[i] = w := (List.getElem?_eq_some_iff.1 h).2
  rw [List.replicate_succ', List.append_assoc, List.set_append_right _ _ (by simp), List.drop_eq_getElem_cons hi, hw]
  simp
theorem set_low2 {L : List Nat} {i w : Nat} (h : L[i]? = some w) : (List.replicate (i + 1) 0).set i w ++ L.drop (i + 1) = List.replicate i 0 ++ L.drop i := by
  rw [← set_low h, List.set_append_left _ _ (by simp)]
theorem right_step {n k s : Nat} (hs : s < 64) : n / 18446744073709551616 ^ (k + 1) % 2 ^ s * 2 ^ (64 - s) + n / 18446744073709551616 ^ k % 18446744073709551616 / 2 ^ s = n / 2 ^ s / 18446744073709551616 ^ k % 18446744073709551616 := by
  rw [Nat.pow_succ, ← Nat.div_div_eq_div_mul, rshr_word _ hs, Nat.div_div_eq_div_mul, Nat.div_div_eq_div_mul, Nat.mul_comm]
theorem right_fall {n k s : Nat} (hs : s < 64) : n / 18446744073709551616 ^ k % 18446744073709551616 * 2 ^ (64 - s) % 18446744073709551616 = n / 18446744073709551616 ^ k % 2 ^ s * 2 ^ (64 - s) := by
  rw [shl_word _ hs, Nat.mod_mod_of_dvd]
  rw [B64]; exact Nat.pow_dvd_pow 2 (by omega)
theorem Right1_does {x : List Nat} {s : Nat} (hx : x.length ≤ 1073741824) (hw : Ws x) (hs : s < 64) : Does Tryz.prog G 173 [Wd x, .c (.i .i64 s)] (.t [Wn (wds (val x / 2 ^ s) x.length), .c (.n (val x % 2 ^ s * 2 ^ (64 - s)))]) := by
  refine Does.of (nt := 41) Tryz.func173 rfl rfl rfl (by simp) ?_
  simp only [argTm, PV.ext, Ce.ext]
  refine Do.seqk fun _ k1_ => ?_
  refine Do.region [0,1] true ?_
  simp [go_sem]
  apply k1_; clear k1_
  refine Do.seqk fun _ k2_ => ?_
  refine Do.region [0,1,6] true ?_
  simp [go_sem]
  repeat (refine And.intro (by first | omega | (intros; omega) | grind) ?_)
  apply k2_; clear k2_
  refine Do.seqk fun _ k3_ => ?_
  refine Do.region [0,1,6,7] true ?_
  simp [go_sem]
  apply k3_; clear k3_
  refine Do.seqk fun _ k4_ => ?_
  refine Do.seqk fun _ k5_ => ?_
  refine Do.region [0,1,6,7,8] true ?_
  simp [go_sem]
  repeat (refine And.intro (by first | omega | (intros; omega) | grind) ?_)
  apply k5_; clear k5_
  refine Do.block ?_
  refine Do.loopF [0,1,6,7,8] (fun (i : Nat) => [(7, .nat (val x / 18446744073709551616 ^ i % 2 ^ s * 2 ^ (64 - s))), (8, .int .i64 ((i : Int) - 1))]) (fun (i : Nat) => [(102, .wr (List.replicate i 0 ++ (wds (val x / 2 ^ s) x.length).drop i))]) (fun (i : Nat) => i ≤ x.length) (fun (i : Nat) => i) (x.length) (fun _ => by first | (simp [go_sem, mixS]; done) | (simp [go_sem, mixS]; rfl)) (St.le_of (by simp [keep, Nat.div_eq_of_lt (val_lt hw)]) (by simp [keep, List.drop_of_length_le, wds_len])) (Nat.le_refl _) ?_
  intro i hi
  refine Do.seqk fun _ k6_ => ?_
  refine Do.seqk fun _ k7_ => ?_
  refine Do.region [0,1,6,7,8,16] true ?_
  simp [go_sem]
  apply k7_; clear k7_
  refine Do.cond [0,1,6,7,8] rfl (fun h => ?_) (fun h => ?_) <;> simp [go_sem] at h ⊢
  · obtain ⟨k, rfl⟩ : ∃ k, i = k + 1 := ⟨i - 1, by omega⟩
    have hg := ws_get hw (i := k) (by omega)
    have hL := wds_get (n := val x / 2 ^ s) (k := x.length) (i := k) (by omega)
    have hst := right_step (n := val x) (k := k) hs
    have hfa := right_fall (n := val x) (k := k) hs
    obtain ⟨w, hwd⟩ : ∃ w, val x / 18446744073709551616 ^ k % 18446744073709551616 = w := ⟨_, rfl⟩
    have hlt : w < 18446744073709551616 := hwd ▸ Nat.mod_lt _ (by decide)
    have hvlt := Nat.mod_lt (val x / 2 ^ s / 18446744073709551616 ^ k) (show 0 < 18446744073709551616 by decide)
    rw [hwd] at hg hst hfa
    rw [← hst] at hL hvlt
    have hset := set_low2 hL
    refine Do.skip ?_
    simp [go_sem]
    apply k6_; clear k6_
    refine Do.seqk fun _ k8_ => ?_
    refine Do.block ?_
    refine Do.seqk fun _ k9_ => ?_
    refine Do.region [0,1,6,8] true ?_
    simp [go_sem, hg, M64]
    repeat (refine And.intro (by first | omega | (intros; omega) | grind) ?_)
    apply k9_; clear k9_
    refine Do.seqk fun _ k10_ => ?_
    refine Do.region [0,1,6,7,8] true ?_
    simp [go_sem, hg, M64]
    apply k10_; clear k10_
    refine Do.seqk fun _ k11_ => ?_
    refine Do.region [0,1,6,7,8,31] true ?_
    simp [go_sem, hg, M64]
    apply k11_; clear k11_
    refine Do.cond [0,1,6,7,8] rfl (fun h2 => ?_) (fun h2 => ?_) <;> simp [go_sem, hg, M64] at h2 ⊢
    · refine Do.region [0,1,6,7,8] true ?_
      simp [go_sem, hg, M64]
      repeat (refine And.intro (by first | omega | (intros; omega) | grind) ?_)
      rw [hfa]
      apply k8_; clear k8_
      refine Do.region [0,1,6,7,8] true ?_
      simp [go_sem, hg, M64]
      repeat (refine And.intro (by first | omega | (intros; omega) | grind) ?_)
      refine ⟨k, St.le_of rfl (by simp [keep, hset]), by omega, by simp⟩
    · refine Do.skip ?_
      simp [go_sem]
      apply k8_; clear k8_
      refine Do.region [0,1,6,7,8] true ?_
      simp [go_sem, hg, M64]
      repeat (refine And.intro (by first | omega | (intros; omega) | grind) ?_)
      refine ⟨k, St.le_of (by simp [keep, h2, Nat.mod_one]) (by simp [keep, hset]), by omega, by simp⟩
  · refine Do.exit ?_
    simp [go_sem]
    apply k4_; clear k4_
    refine Do.seqk fun _ k12_ => ?_
    refine Do.region [4,5] true ?_
    simp [go_sem]
    apply k12_; clear k12_
    refine Do.ret ?_
    simp [endQ, rets, ret1, go_sem]
    repeat (refine And.intro (by first | omega | (intros; omega) | grind) ?_)
    have e : i = 0 := by omega
    subst e
    refine TLe.t (.cons ?_ (.cons ?_ .nil))
    · simp; exact PLe.refl _
    · simp; exact PLe.refl _
theorem val_drop_div {x : List Nat} (hw : Ws x) (q : Nat) : val (x.drop q) = val x / 18446744073709551616 ^ q := by
  by_cases h : q ≤ x.length
  · have h1 := val_take x q
    have h2 := val_take_lt hw h
    rw [List.length_take, Nat.min_eq_left h] at h1
    rw [← B64_pow] at h2
    rw [h1, Nat.add_comm, Nat.mul_add_div (Nat.pow_pos (by decide)), Nat.div_eq_of_lt h2, Nat.add_zero]
  · rw [List.drop_eq_nil_of_le (by omega), Nat.div_eq_of_lt (Nat.lt_of_lt_of_le (val_lt hw) (Nat.pow_le_pow_right (by decide) (by omega)))]
    rfl
theorem RRight_does {x : List Nat} {s : Nat} (hx : x.length ≤ 1073741824) (hw : Ws x) (hs : s < 9223372036854775808) : Does Tryz.prog G 136 [Wd x, .c (.i .i64 s)] (.v (Wn (nat (val x / 2 ^ s)))) := by
  have hdiv : val x / 2 ^ s = val x / 18446744073709551616 ^ (s / 64) / 2 ^ (s % 64) := by
    rw [B64_pow, Nat.div_div_eq_div_mul, ← Nat.pow_add, show 64 * (s / 64) + s % 64 = s by omega]
  have h1 := @Right1_does G (x.drop (s / 64)) (s % 64) (by simp; omega) (hw.drop _) (by omega)
  rw [val_drop_div hw, ← hdiv, show ((s % 64 : Nat) : Int) = (s : Int) % 64 by omega] at h1
  have h2 := @RTrim_does G (wds (val x / 2 ^ s) (x.drop (s / 64)).length) (by rw [wds_len]; simp; omega) (wds_ws _ _)
  have hlt : val x / 2 ^ s < 18446744073709551616 ^ (x.drop (s / 64)).length := by
    rw [hdiv, ← val_drop_div hw]
    exact Nat.lt_of_le_of_lt (Nat.div_le_self _ _) (val_lt (hw.drop _))
  rw [val_wds, Nat.mod_eq_of_lt hlt] at h2
  have htk : List.take (x.length - s / 64) (x.drop (s / 64)) = x.drop (s / 64) := List.take_of_length_le (by simp)
  have htn : ((s : Int) / 64).toNat = s / 64 := by omega
  generalize wds (val x / 2 ^ s) (x.drop (s / 64)).length = y at *
  generalize val (x.drop (s / 64)) % 2 ^ (s % 64) * 2 ^ (64 - s % 64) = z at *
  refine Does.of (nt := 24) Tryz.func136 rfl rfl rfl (by simp) ?_
  simp only [argTm, PV.ext, Ce.ext]
  refine Do.seqk fun _ k1_ => ?_
  refine Do.region [0,1] true ?_
  simp [go_sem]
  apply k1_; clear k1_
  refine Do.seqk fun _ k2_ => ?_
  refine Do.seqk fun _ k3_ => ?_
  refine Do.region [0,1,11] true ?_
  simp [go_sem]
  repeat (refine And.intro (by first | omega | (intros; omega) | grind) ?_)
  apply k3_; clear k3_
  refine Do.cond [0,1] rfl (fun h => ?_) (fun h => ?_) <;> simp [go_sem] at h ⊢
  · refine Do.seqk fun _ k4_ => ?_
    refine Do.region [4] true ?_
    simp [go_sem]
    apply k4_; clear k4_
    refine Do.ret ?_
    simp [endQ, rets, ret1, go_sem]
    repeat (refine And.intro (by first | omega | (intros; omega) | grind) ?_)
    rw [hdiv, Nat.div_eq_of_lt (Nat.lt_of_lt_of_le (val_lt hw) (Nat.pow_le_pow_right (by decide) (show x.length ≤ s / 64 by omega))), Nat.zero_div, nat_zero]
    exact TLe.v (PLe.z true)
  · refine Do.skip ?_
    simp [go_sem]
    apply k2_; clear k2_
    refine Do.seqk fun _ k5_ => ?_
    refine Do.region [5] true ?_
    simp [go_sem, htk, htn]
    repeat (refine And.intro (by first | omega | (intros; omega) | grind) ?_)
    refine DoL.call true 307 rfl rfl rfl rfl (by first | exact trivial | omega | (simp; done) | (simp; omega)) (h1) rfl (by first | exact .inl rfl | exact .inr rfl) rfl ?_
    simp [go_sem, htk, htn]
    apply k5_; clear k5_
    refine Do.seqk fun _ k6_ => ?_
    refine Do.region [4] true ?_
    simp [go_sem, htk, htn]
    refine DoL.call true 402 rfl rfl rfl rfl (by first | exact trivial | omega | (simp; done) | (simp; omega)) (h2) rfl (by first | exact .inl rfl | exact .inr rfl) rfl ?_
    simp [go_sem, htk, htn]
    apply k6_; clear k6_
    refine Do.ret ?_
    simp [endQ, rets, ret1, go_sem, htk, htn]
    repeat (refine And.intro (by first | omega | (intros; omega) | grind) ?_)
    exact TLe.refl _
end Go.Proofs.YtokgalpflooegaaGreatDoor
/- The floats of the reference. No condition. -/
namespace Go.Proofs.YtokgalpflooegaaGreatDoor
set_option linter.unusedVariables false
set_option linter.unusedSimpArgs false
variable {G : Gl}
set_option maxHeartbeats 2000000
abbrev Md (e : Int) : Prop := -4611686018427387904 ≤ e ∧ e ≤ 4611686018427387904
theorem odd_does {k e : Int} {n : Bool} {m : List Nat} (hm : m.length ≤ 1073741824) (wm : Ws m) (he : Md e) : Does Tryz.prog G 100 [Fl k n e m] (.t [Wn (nat (val m / 2 ^ tz (val m))), .c (.i .i64 (e + tz (val m)))]) := by
  have ht : tz (val m) < 64 * m.length + 1 := by
    by_cases h : val m = 0
    · rw [h, tz_zero]; omega
    · have := tz_bound wm h; omega
  refine Does.of (nt := 20) Tryz.func100 rfl rfl rfl (by simp) ?_
  simp only [argTm, PV.ext, Ce.ext]
  refine Do.seqk fun _ k1_ => ?_
  refine Do.region [1] true ?_
  simp [go_sem]
  apply k1_; clear k1_
  refine Do.seqk fun _ k2_ => ?_
  refine Do.region [1,4] true ?_
  simp [go_sem]
  repeat (refine And.intro (by first | omega | (intros; omega) | grind) ?_)
  refine DoL.call true 103 rfl rfl rfl rfl (by first | exact trivial | omega | (simp; done) | (simp; omega)) (Bits_does hm wm) rfl (by first | exact .inl rfl | exact .inr rfl) rfl ?_
  simp [go_sem]
  apply k2_; clear k2_
  refine Do.seqk fun _ k3_ => ?_
  refine Do.draw [2,3] true (by kernel_rfl) ?_
  simp [go_sem]
  repeat (refine And.intro (by first | omega | (intros; omega) | kernel_rfl | grind) ?_)
  refine DoLD.call true 204 rfl rfl rfl rfl (by first | exact trivial | omega | (simp; done) | (simp; omega)) (RRight_does hm wm (s := tz (val m)) (by omega)) rfl (by first | exact .inl rfl | exact .inr rfl) rfl ?_
  simp [go_sem]
  repeat (refine And.intro (by first | omega | (intros; omega) | kernel_rfl | grind) ?_)
  try (refine And.intro (by kernel_rfl) ?_)
  apply k3_; clear k3_
  refine Do.ret ?_
  simp [endQ, rets, ret1, go_sem]
  repeat (refine And.intro (by first | omega | (intros; omega) | grind) ?_)
  exact TLe.refl _
theorem Good_does {k e : Int} {n : Bool} {m : List Nat} (hm : m.length ≤ 1073741824) (wm : Ws m) : Does Tryz.prog G 96 [Fl k n e m] (.v (.c (.b (canon ⟨k, n, e, val m⟩).2))) := by
  have hz := @IsZero_does G m hm wm
  rcases (show k = 0 ∨ k = 2 ∨ k = 3 ∨ k = 1 ∨ (k ≠ 0 ∧ k ≠ 2 ∧ k ≠ 3 ∧ k ≠ 1) by omega) with hk | hk | hk | hk | hk
  · subst hk
    refine Does.of (nt := 55) Tryz.func96 rfl rfl rfl (by simp) ?_
    simp only [argTm, PV.ext, Ce.ext]
    refine Do.seqk fun _ k1_ => ?_
    refine Do.region [1] true ?_
    simp [go_sem]
    apply k1_; clear k1_
    refine Do.seqk fun _ k2_ => ?_
    refine Do.seqk fun _ k3_ => ?_
    refine Do.region [1,6] true ?_
    simp [go_sem]
    repeat (refine And.intro (by first | omega | (intros; omega) | grind) ?_)
    apply k3_; clear k3_
    refine Do.block ?_
    refine Do.seqk fun _ k4_ => ?_
    refine Do.seqk fun _ k5_ => ?_
    refine Do.region [1,6,7] true ?_
    simp [go_sem]
    apply k5_; clear k5_
    refine Do.cond [1,6,7] rfl (fun h => ?_) (fun h => ?_) <;> simp [go_sem] at h ⊢
    refine Do.skip ?_
    simp [go_sem]
    apply k4_; clear k4_
    refine Do.cond [1,6] rfl (fun h => ?_) (fun h => ?_) <;> simp [go_sem] at h ⊢
    refine Do.seqk fun _ k6_ => ?_
    refine Do.region [2] true ?_
    simp [go_sem]
    repeat (refine And.intro (by first | omega | (intros; omega) | grind) ?_)
    refine DoL.callg true 407 rfl rfl rfl rfl rfl (by simp [go_sem] <;> omega) (fun _ => hz) rfl (by first | exact .inl rfl | exact .inr rfl) rfl ?_
    simp [go_sem]
    apply k6_; clear k6_
    refine Do.ret ?_
    simp [endQ, rets, ret1, go_sem]
    repeat (refine And.intro (by first | omega | (intros; omega) | grind) ?_)
    exact ret_b (by simp [canon])
  · subst hk
    refine Does.of (nt := 55) Tryz.func96 rfl rfl rfl (by simp) ?_
    simp only [argTm, PV.ext, Ce.ext]
    refine Do.seqk fun _ k1_ => ?_
    refine Do.region [1] true ?_
    simp [go_sem]
    apply k1_; clear k1_
    refine Do.seqk fun _ k2_ => ?_
    refine Do.seqk fun _ k3_ => ?_
    refine Do.region [1,6] true ?_
    simp [go_sem]
    repeat (refine And.intro (by first | omega | (intros; omega) | grind) ?_)
    apply k3_; clear k3_
    refine Do.block ?_
    refine Do.seqk fun _ k4_ => ?_
    refine Do.seqk fun _ k5_ => ?_
    refine Do.region [1,6,7] true ?_
    simp [go_sem]
    apply k5_; clear k5_
    refine Do.cond [1,6,7] rfl (fun h => ?_) (fun h => ?_) <;> simp [go_sem] at h ⊢
    refine Do.region [1,6,7] true ?_
    simp [go_sem]
    apply k4_; clear k4_
    refine Do.cond [1,6] rfl (fun h => ?_) (fun h => ?_) <;> simp [go_sem] at h ⊢
    refine Do.seqk fun _ k6_ => ?_
    refine Do.region [2] true ?_
    simp [go_sem]
    repeat (refine And.intro (by first | omega | (intros; omega) | grind) ?_)
    refine DoL.callg true 407 rfl rfl rfl rfl rfl (by simp [go_sem] <;> omega) (fun _ => hz) rfl (by first | exact .inl rfl | exact .inr rfl) rfl ?_
    simp [go_sem]
    apply k6_; clear k6_
    refine Do.ret ?_
    simp [endQ, rets, ret1, go_sem]
    repeat (refine And.intro (by first | omega | (intros; omega) | grind) ?_)
    exact ret_b (by simp [canon])
  · subst hk
    refine Does.of (nt := 55) Tryz.func96 rfl rfl rfl (by simp) ?_
    simp only [argTm, PV.ext, Ce.ext]
    refine Do.seqk fun _ k1_ => ?_
    refine Do.region [1] true ?_
    simp [go_sem]
    apply k1_; clear k1_
    refine Do.seqk fun _ k2_ => ?_
    refine Do.seqk fun _ k3_ => ?_
    refine Do.region [1,6] true ?_
    simp [go_sem]
    repeat (refine And.intro (by first | omega | (intros; omega) | grind) ?_)
    apply k3_; clear k3_
    refine Do.block ?_
    refine Do.seqk fun _ k4_ => ?_
    refine Do.seqk fun _ k5_ => ?_
    refine Do.region [1,6,7] true ?_
    simp [go_sem]
    apply k5_; clear k5_
    refine Do.cond [1,6,7] rfl (fun h => ?_) (fun h => ?_) <;> simp [go_sem] at h ⊢
    refine Do.region [1,6,7] true ?_
    simp [go_sem]
    apply k4_; clear k4_
    refine Do.cond [1,6] rfl (fun h => ?_) (fun h => ?_) <;> simp [go_sem] at h ⊢
    refine Do.seqk fun _ k6_ => ?_
    refine Do.region [1,6,18] true ?_
    simp [go_sem]
    apply k6_; clear k6_
    refine Do.cond [1,6] rfl (fun h => ?_) (fun h => ?_) <;> simp [go_sem] at h ⊢
    refine Do.seqk fun _ k7_ => ?_
    refine Do.region [2] true ?_
    simp [go_sem]
    repeat (refine And.intro (by first | omega | (intros; omega) | grind) ?_)
    refine DoL.callg true 612 rfl rfl rfl rfl rfl (by simp [go_sem] <;> omega) (fun _ => hz) rfl (by first | exact .inl rfl | exact .inr rfl) rfl ?_
    simp [go_sem]
    apply k7_; clear k7_
    refine Do.ret ?_
    simp [endQ, rets, ret1, go_sem]
    repeat (refine And.intro (by first | omega | (intros; omega) | grind) ?_)
    exact ret_b (by simp [canon, Bool.and_assoc])
  · subst hk
    refine Does.of (nt := 55) Tryz.func96 rfl rfl rfl (by simp) ?_
    simp only [argTm, PV.ext, Ce.ext]
    refine Do.seqk fun _ k1_ => ?_
    refine Do.region [1] true ?_
    simp [go_sem]
    apply k1_; clear k1_
    refine Do.seqk fun _ k2_ => ?_
    refine Do.seqk fun _ k3_ => ?_
    refine Do.region [1,6] true ?_
    simp [go_sem]
    repeat (refine And.intro (by first | omega | (intros; omega) | grind) ?_)
    apply k3_; clear k3_
    refine Do.block ?_
    refine Do.seqk fun _ k4_ => ?_
    refine Do.seqk fun _ k5_ => ?_
    refine Do.region [1,6,7] true ?_
    simp [go_sem]
    apply k5_; clear k5_
    refine Do.cond [1,6,7] rfl (fun h => ?_) (fun h => ?_) <;> simp [go_sem] at h ⊢
    refine Do.region [1,6,7] true ?_
    simp [go_sem]
    apply k4_; clear k4_
    refine Do.cond [1,6] rfl (fun h => ?_) (fun h => ?_) <;> simp [go_sem] at h ⊢
    refine Do.seqk fun _ k6_ => ?_
    refine Do.region [1,6,18] true ?_
    simp [go_sem]
    apply k6_; clear k6_
    refine Do.cond [1,6] rfl (fun h => ?_) (fun h => ?_) <;> simp [go_sem] at h ⊢
    refine Do.seqk fun _ k7_ => ?_
    refine Do.region [1,33] true ?_
    simp [go_sem]
    apply k7_; clear k7_
    refine Do.cond [1] rfl (fun h => ?_) (fun h => ?_) <;> simp [go_sem] at h ⊢
    refine Do.seqk fun _ k8_ => ?_
    refine Do.seqk fun _ k9_ => ?_
    refine Do.region [1,47] true ?_
    simp [go_sem]
    repeat (refine And.intro (by first | omega | (intros; omega) | grind) ?_)
    refine DoL.call true 803 rfl rfl rfl rfl (by first | exact trivial | omega | (simp; done) | (simp; omega)) (hz) rfl (by first | exact .inl rfl | exact .inr rfl) rfl ?_
    simp [go_sem]
    repeat (refine And.intro (by first | omega | (intros; omega) | grind) ?_)
    apply k9_; clear k9_
    refine Do.cond [1] rfl (fun h => ?_) (fun h => ?_) <;> simp [go_sem] at h ⊢
    · refine Do.seqk fun _ k10_ => ?_
      refine Do.region [2] true ?_
      simp [go_sem]
      apply k10_; clear k10_
      refine Do.ret ?_
      simp [endQ, rets, ret1, go_sem]
      repeat (refine And.intro (by first | omega | (intros; omega) | grind) ?_)
      refine ret_b ?_
      unfold canon
      rw [if_neg (by simp), if_neg (by simp), if_pos rfl, if_pos (by simp; omega)]
    · refine Do.skip ?_
      simp [go_sem]
      apply k8_; clear k8_
      refine Do.seqk fun _ k11_ => ?_
      refine Do.region [4] true ?_
      simp [go_sem]
      repeat (refine And.intro (by first | omega | (intros; omega) | grind) ?_)
      refine DoL.call true 1002 rfl rfl rfl rfl (by first | exact trivial | omega | (simp; done) | (simp; omega)) (odd_does hm wm ⟨by omega, by omega⟩) rfl (by first | exact .inl rfl | exact .inr rfl) rfl ?_
      simp [go_sem]
      apply k11_; clear k11_
      refine Do.seqk fun _ k12_ => ?_
      refine Do.region [2] true ?_
      simp [go_sem]
      apply k12_; clear k12_
      refine Do.ret ?_
      simp [endQ, rets, ret1, go_sem]
      repeat (refine And.intro (by first | omega | (intros; omega) | grind) ?_)
      refine ret_b ?_
      unfold canon
      rw [if_neg (by simp), if_neg (by simp), if_pos rfl, if_neg (by simp; omega)]
  ·
    refine Does.of (nt := 55) Tryz.func96 rfl rfl rfl (by simp) ?_
    simp only [argTm, PV.ext, Ce.ext]
    refine Do.seqk fun _ k1_ => ?_
    refine Do.region [1] true ?_
    simp [go_sem]
    apply k1_; clear k1_
    refine Do.seqk fun _ k2_ => ?_
    refine Do.seqk fun _ k3_ => ?_
    refine Do.region [1,6] true ?_
    simp [go_sem]
    repeat (refine And.intro (by first | omega | (intros; omega) | grind) ?_)
    apply k3_; clear k3_
    refine Do.block ?_
    refine Do.seqk fun _ k4_ => ?_
    refine Do.seqk fun _ k5_ => ?_
    refine Do.region [1,6,7] true ?_
    simp [go_sem]
    apply k5_; clear k5_
    refine Do.cond [1,6,7] rfl (fun h => ?_) (fun h => ?_) <;> simp [go_sem] at h ⊢
    · exact absurd h hk.1
    · refine Do.region [1,6,7] true ?_
      simp [go_sem]
      apply k4_; clear k4_
      refine Do.cond [1,6] rfl (fun h => ?_) (fun h => ?_) <;> simp [go_sem] at h ⊢
      · exact absurd h hk.2.1
      · refine Do.seqk fun _ k6_ => ?_
        refine Do.region [1,6,18] true ?_
        simp [go_sem]
        apply k6_; clear k6_
        refine Do.cond [1,6] rfl (fun h => ?_) (fun h => ?_) <;> simp [go_sem] at h ⊢
        · exact absurd h hk.2.2.1
        · refine Do.seqk fun _ k7_ => ?_
          refine Do.region [1,33] true ?_
          simp [go_sem]
          apply k7_; clear k7_
          refine Do.cond [1] rfl (fun h => ?_) (fun h => ?_) <;> simp [go_sem] at h ⊢
          · exact absurd h hk.2.2.2
          · refine Do.skip ?_
            simp [go_sem]
            apply k2_; clear k2_
            refine Do.seqk fun _ k8_ => ?_
            refine Do.region [2] true ?_
            simp [go_sem]
            apply k8_; clear k8_
            refine Do.ret ?_
            simp [endQ, rets, ret1, go_sem]
            repeat (refine And.intro (by first | omega | (intros; omega) | grind) ?_)
            exact ret_b (by simp [canon, hk])
/-- The float that the reference takes as canonical. -/
def rcanon (x : Flt) : Flt := if x.k = 1 then ⟨1, x.n, x.e + tz x.v, x.v / 2 ^ tz x.v⟩ else ⟨x.k, x.n, 0, 0⟩
theorem Canonical_does {k e : Int} {n : Bool} {m : List Nat} (hm : m.length ≤ 1073741824) (wm : Ws m) (he : Md e) : Does Tryz.prog G 53 [Fl k n e m] (.v (rcanon ⟨k, n, e, val m⟩).pv) := by
  refine Does.of (nt := 23) Tryz.func53 rfl rfl rfl (by simp) ?_
  simp only [argTm, PV.ext, Ce.ext]
  refine Do.seqk fun _ k1_ => ?_
  refine Do.region [1,2] true ?_
  simp [go_sem]
  apply k1_; clear k1_
  refine Do.seqk fun _ k2_ => ?_
  refine Do.seqk fun _ k3_ => ?_
  refine Do.region [1,2,7] true ?_
  simp [go_sem]
  repeat (refine And.intro (by first | omega | (intros; omega) | grind) ?_)
  apply k3_; clear k3_
  refine Do.cond [1,2] rfl (fun h => ?_) (fun h => ?_) <;> simp [go_sem] at h ⊢
  · refine Do.seqk fun _ k4_ => ?_
    refine Do.region [2] true ?_
    simp [go_sem]
    repeat (refine And.intro (by first | omega | (intros; omega) | grind) ?_)
    apply k4_; clear k4_
    refine Do.ret ?_
    simp [endQ, rets, ret1, go_sem]
    repeat (refine And.intro (by first | omega | (intros; omega) | grind) ?_)
    rw [rcanon, if_neg h]
    exact ret_f1 (ret_z rfl) rfl
  · refine Do.skip ?_
    simp [go_sem]
    apply k2_; clear k2_
    refine Do.seqk fun _ k5_ => ?_
    refine Do.region [1,2,3,4] true ?_
    simp [go_sem]
    repeat (refine And.intro (by first | omega | (intros; omega) | grind) ?_)
    refine DoL.call true 302 rfl rfl rfl rfl (by first | exact trivial | omega | (simp; done) | (simp; omega)) (odd_does hm wm he) rfl (by first | exact .inl rfl | exact .inr rfl) rfl ?_
    simp [go_sem]
    apply k5_; clear k5_
    refine Do.seqk fun _ k6_ => ?_
    refine Do.region [2] true ?_
    simp [go_sem]
    repeat (refine And.intro (by first | omega | (intros; omega) | grind) ?_)
    apply k6_; clear k6_
    refine Do.ret ?_
    simp [endQ, rets, ret1, go_sem]
    repeat (refine And.intro (by first | omega | (intros; omega) | grind) ?_)
    rw [rcanon, if_pos h]
    exact ret_f1 (PLe.ext _) rfl
theorem Equal_does {k e : Int} {n : Bool} {m : List Nat} {k' e' : Int} {n' : Bool} {m' : List Nat} (hm : m.length ≤ 1073741824) (wm : Ws m) (wm' : Ws m') : Does Tryz.prog G 155 [Fl k n e m, Fl k' n' e' m'] (.v (.c (.b (k == k' && n == n' && e == e' && decide (m = m'))))) := by
  refine Does.of (nt := 52) Tryz.func155 rfl rfl rfl (by simp) ?_
  simp only [argTm, PV.ext, Ce.ext]
  refine Do.seqk fun _ k1_ => ?_
  refine Do.region [2,3] true ?_
  simp [go_sem]
  apply k1_; clear k1_
  refine Do.seqk fun _ k2_ => ?_
  refine Do.seqk fun _ k3_ => ?_
  refine Do.region [2,3,33] true ?_
  simp [go_sem]
  repeat (refine And.intro (by first | omega | (intros; omega) | grind) ?_)
  apply k3_; clear k3_
  refine Do.cond [2,3] rfl (fun h => ?_) (fun h => ?_) <;> simp [go_sem] at h ⊢
  · refine Do.seqk fun _ k4_ => ?_
    refine Do.region [4] true ?_
    simp [go_sem]
    apply k4_; clear k4_
    refine Do.ret ?_
    simp [endQ, rets, ret1, go_sem]
    repeat (refine And.intro (by first | omega | (intros; omega) | grind) ?_)
    refine ret_b ?_
    rcases h with ((h | h) | h) | h
    · simp [h]
    · simp [h]
    · simp [h]
    · have : m ≠ m' := fun e => h (by rw [e])
      simp [this]
  · obtain ⟨⟨⟨h1, h2⟩, h3⟩, h4⟩ := h
    refine Do.skip ?_
    simp [go_sem]
    apply k2_; clear k2_
    refine Do.seqk fun _ k5_ => ?_
    refine Do.seqk fun _ k6_ => ?_
    refine Do.region [2,3,5] true ?_
    simp [go_sem]
    apply k6_; clear k6_
    refine Do.block ?_
    refine Do.loopF [2,3,5] (fun (i : Nat) => [(5, .int .i64 i)]) (fun (i : Nat) => []) (fun (i : Nat) => i ≤ m.length ∧ ∀ j, j < i → m[j]?.getD 0 = m'[j]?.getD 0) (fun (i : Nat) => m.length - i) (0) (fun _ => by first | (simp [go_sem, mixS]; done) | (simp [go_sem, mixS]; rfl)) (St.le_of (by first | rfl | simp [keep]) (by first | rfl | simp [keep])) (⟨Nat.zero_le _, fun j hj => absurd hj (Nat.not_lt_zero j)⟩) ?_
    rintro i ⟨hi, hz⟩
    refine Do.seqk fun _ k7_ => ?_
    refine Do.seqk fun _ k8_ => ?_
    refine Do.region [2,3,5,38] true ?_
    simp [go_sem]
    repeat (refine And.intro (by first | omega | (intros; omega) | grind) ?_)
    apply k8_; clear k8_
    refine Do.cond [2,3,5] rfl (fun h5 => ?_) (fun h5 => ?_) <;> simp [go_sem] at h5 ⊢
    · have hg := ws_get wm (i := i) (by omega)
      have hg' := ws_get wm' (i := i) (by omega)
      refine Do.skip ?_
      simp [go_sem]
      apply k7_; clear k7_
      refine Do.seqk fun _ k9_ => ?_
      refine Do.block ?_
      refine Do.seqk fun _ k10_ => ?_
      refine Do.draw [2,3,5,51] true (by kernel_rfl) ?_
      simp [go_sem]
      repeat (refine And.intro (by first | omega | (intros; omega) | kernel_rfl | grind) ?_)
      try (refine And.intro (by kernel_rfl) ?_)
      apply k10_; clear k10_
      refine Do.cond [2,3,5] rfl (fun h6 => ?_) (fun h6 => ?_) <;> simp [go_sem] at h6 ⊢
      · refine Do.seqk fun _ k11_ => ?_
        refine Do.region [4] true ?_
        simp [go_sem]
        apply k11_; clear k11_
        refine Do.ret ?_
        simp [endQ, rets, ret1, go_sem]
        repeat (refine And.intro (by first | omega | (intros; omega) | grind) ?_)
        refine ret_b ?_
        have : m ≠ m' := fun e => h6 (by rw [e])
        simp [this]
      · refine Do.skip ?_
        simp [go_sem]
        apply k9_; clear k9_
        refine Do.region [2,3,5] true ?_
        simp [go_sem]
        repeat (refine And.intro (by first | omega | (intros; omega) | grind) ?_)
        refine ⟨i + 1, St.le_of (by first | rfl | simp [keep]) (by first | rfl | simp [keep]), ⟨by omega, ?_⟩, by simp; omega⟩
        intro j hj
        by_cases e : j = i
        · subst e; exact h6
        · exact hz j (by omega)
    · refine Do.exit ?_
      simp [go_sem]
      apply k5_; clear k5_
      refine Do.seqk fun _ k12_ => ?_
      refine Do.region [4] true ?_
      simp [go_sem]
      apply k12_; clear k12_
      refine Do.ret ?_
      simp [endQ, rets, ret1, go_sem]
      repeat (refine And.intro (by first | omega | (intros; omega) | grind) ?_)
      refine ret_b ?_
      have e : m = m' := by
        apply List.ext_getElem?
        intro j
        by_cases hj : j < i
        · have := hz j hj
          rw [List.getElem?_eq_getElem (show j < m.length by omega), List.getElem?_eq_getElem (show j < m'.length by omega)] at this ⊢
          simpa using this
        · rw [List.getElem?_eq_none (by omega), List.getElem?_eq_none (by omega)]
      simp [h1, h2, h3, e]
theorem Is_does {k e : Int} {n : Bool} {m : List Nat} {k' e' : Int} {n' : Bool} {m' : List Nat} (hm : m.length ≤ 1073741824) (wm : Ws m) (hm' : m'.length ≤ 1073741824) (wm' : Ws m') (he' : Md e') : Does Tryz.prog G 98 [Fl k n e m, Fl k' n' e' m'] (.v (.c (.b (k == (rcanon ⟨k', n', e', val m'⟩).k && n == (rcanon ⟨k', n', e', val m'⟩).n && e == (rcanon ⟨k', n', e', val m'⟩).e && decide (m = nat (rcanon ⟨k', n', e', val m'⟩).v))))) := by
  have hc := @Canonical_does G k' e' n' m' hm' wm' he'
  generalize rcanon ⟨k', n', e', val m'⟩ = y at *
  refine Does.of (nt := 9) Tryz.func98 rfl rfl rfl (by simp) ?_
  simp only [argTm, PV.ext, Ce.ext]
  refine Do.seqk fun _ k1_ => ?_
  refine Do.region [2,3] true ?_
  simp [go_sem]
  apply k1_; clear k1_
  refine Do.seqk fun _ k2_ => ?_
  refine Do.draw [4] true (by kernel_rfl) ?_
  simp [go_sem]
  repeat (refine And.intro (by first | omega | (intros; omega) | kernel_rfl | grind) ?_)
  refine DoLD.call true 103 rfl rfl rfl rfl (by first | exact trivial | omega | (simp; done) | (simp; omega)) (hc) rfl (by first | exact .inl rfl | exact .inr rfl) rfl ?_
  simp [go_sem]
  refine DoLD.call true 104 rfl rfl rfl rfl (by first | exact trivial | omega | (simp; done) | (simp; omega)) (Equal_does hm wm (nat_ws _)) rfl (by first | exact .inl rfl | exact .inr rfl) rfl ?_
  simp [go_sem]
  try (refine And.intro (by kernel_rfl) ?_)
  apply k2_; clear k2_
  refine Do.ret ?_
  simp [endQ, rets, ret1, go_sem]
  repeat (refine And.intro (by first | omega | (intros; omega) | grind) ?_)
  exact TLe.refl _
theorem RGreatest_does {f p : Int} (hf : fmOk f p = true) : Does Tryz.prog G 113 [Fm f p] (.int .i64 (gOfE f)) := by
  obtain ⟨b1, b2, b3, b4⟩ := fmOk_spec hf
  obtain ⟨b5, b6⟩ := gOfE_le b1 b2
  have hg : (2 : Int) ^ (f.toNat - 1) = gOfE f + 1 := by unfold gOfE; omega
  refine Does.of (nt := 8) Tryz.func113 rfl rfl rfl (by simp) ?_
  simp only [argTm, PV.ext, Ce.ext]
  refine Do.seqk fun _ k1_ => ?_
  refine Do.region [1] true ?_
  simp [go_sem]
  apply k1_; clear k1_
  refine Do.seqk fun _ k2_ => ?_
  refine Do.region [2] true ?_
  simp [go_sem]
  repeat (refine And.intro (by first | omega | (intros; omega) | grind) ?_)
  rw [hg]
  repeat (refine And.intro (by omega) ?_)
  apply k2_; clear k2_
  refine Do.ret ?_
  simp [endQ, rets, ret1, go_sem]
  repeat (refine And.intro (by first | omega | (intros; omega) | grind) ?_)
  exact ret_i (by omega)
end Go.Proofs.YtokgalpflooegaaGreatDoor
/- The formats of the reference, and its check of arguments. No condition. -/
namespace Go.Proofs.YtokgalpflooegaaGreatDoor
set_option linter.unusedVariables false
set_option linter.unusedSimpArgs false
variable {G : Gl}
set_option maxHeartbeats 2000000
theorem RLeast_does {f p : Int} (hf : fmOk f p = true) : Does Tryz.prog G 78 [Fm f p] (.int .i64 (1 - gOfE f)) := by
  obtain ⟨b1, b2, b3, b4⟩ := fmOk_spec hf
  obtain ⟨b5, b6⟩ := gOfE_le b1 b2
  refine Does.of (nt := 6) Tryz.func78 rfl rfl rfl (by simp) ?_
  simp only [argTm, PV.ext, Ce.ext]
  refine Do.seqk fun _ k1_ => ?_
  refine Do.region [1] true ?_
  simp [go_sem]
  apply k1_; clear k1_
  refine Do.seqk fun _ k2_ => ?_
  refine Do.region [2] true ?_
  simp [go_sem]
  repeat (refine And.intro (by first | omega | (intros; omega) | grind) ?_)
  refine DoL.call true 102 rfl rfl rfl rfl (by first | exact trivial | omega | (simp; done) | (simp; omega)) (RGreatest_does hf) rfl (by first | exact .inl rfl | exact .inr rfl) rfl ?_
  simp [go_sem]
  repeat (refine And.intro (by first | omega | (intros; omega) | grind) ?_)
  apply k2_; clear k2_
  refine Do.ret ?_
  simp [endQ, rets, ret1, go_sem]
  repeat (refine And.intro (by first | omega | (intros; omega) | grind) ?_)
  exact TLe.refl _
theorem RTiny_does {f p : Int} (hf : fmOk f p = true) : Does Tryz.prog G 133 [Fm f p] (.int .i64 (1 - gOfE f - (p - 1))) := by
  obtain ⟨b1, b2, b3, b4⟩ := fmOk_spec hf
  obtain ⟨b5, b6⟩ := gOfE_le b1 b2
  refine Does.of (nt := 9) Tryz.func133 rfl rfl rfl (by simp) ?_
  simp only [argTm, PV.ext, Ce.ext]
  refine Do.seqk fun _ k1_ => ?_
  refine Do.region [1] true ?_
  simp [go_sem]
  apply k1_; clear k1_
  refine Do.seqk fun _ k2_ => ?_
  refine Do.draw [2] true (by kernel_rfl) ?_
  simp [go_sem]
  repeat (refine And.intro (by first | omega | (intros; omega) | kernel_rfl | grind) ?_)
  refine DoLD.call true 102 rfl rfl rfl rfl (by first | exact trivial | omega | (simp; done) | (simp; omega)) (RLeast_does hf) rfl (by first | exact .inl rfl | exact .inr rfl) rfl ?_
  simp [go_sem]
  repeat (refine And.intro (by first | omega | (intros; omega) | kernel_rfl | grind) ?_)
  try (refine And.intro (by kernel_rfl) ?_)
  apply k2_; clear k2_
  refine Do.ret ?_
  simp [endQ, rets, ret1, go_sem]
  repeat (refine And.intro (by first | omega | (intros; omega) | grind) ?_)
  exact TLe.refl _
theorem RRightF_does {f p : Int} : Does Tryz.prog G 14 [Fm f p] (.v (.c (.b (fmOk f p)))) := by
  refine Does.of (nt := 21) Tryz.func14 rfl rfl rfl (by simp) ?_
  simp only [argTm, PV.ext, Ce.ext]
  refine Do.seqk fun _ k1_ => ?_
  refine Do.region [1] true ?_
  simp [go_sem]
  apply k1_; clear k1_
  refine Do.seqk fun _ k2_ => ?_
  refine Do.region [2] true ?_
  simp [go_sem]
  repeat (refine And.intro (by first | omega | (intros; omega) | grind) ?_)
  apply k2_; clear k2_
  refine Do.ret ?_
  simp [endQ, rets, ret1, go_sem]
  repeat (refine And.intro (by first | omega | (intros; omega) | grind) ?_)
  exact ret_b (by simp [fmOk])
theorem NLarge_does {m : List Nat} (hm : Sh m) : Does Tryz.prog G 50 [Wd m] (.v (.c (.b (decide (4096 < (m.length : Int)))))) := by
  refine Does.of (nt := 6) Tryz.func50 rfl rfl rfl (by simp) ?_
  simp only [argTm, PV.ext, Ce.ext]
  refine Do.seqk fun _ k1_ => ?_
  refine Do.region [0] true ?_
  simp [go_sem]
  apply k1_; clear k1_
  refine Do.seqk fun _ k2_ => ?_
  refine Do.region [2] true ?_
  simp [go_sem]
  repeat (refine And.intro (by first | omega | (intros; omega) | grind) ?_)
  apply k2_; clear k2_
  refine Do.ret ?_
  simp [endQ, rets, ret1, go_sem]
  repeat (refine And.intro (by first | omega | (intros; omega) | grind) ?_)
  exact TLe.refl _
/-- Is a float one of a format, by the reference? -/
def inP (f p : Int) (x : Flt) : Bool :=
  if x.k = 1 then decide ((bl (rcanon x).v : Int) ≤ p) && decide (1 - gOfE f - (p - 1) ≤ (rcanon x).e) && decide ((bl (rcanon x).v : Int) + (rcanon x).e ≤ gOfE f + 1) else true
theorem In_does {f p k e : Int} {n : Bool} {m : List Nat} (hf : fmOk f p = true) (hm : m.length ≤ 1073741824) (wm : Ws m) (he : Md e) : Does Tryz.prog G 69 [Fm f p, Fl k n e m] (.v (.c (.b (inP f p ⟨k, n, e, val m⟩)))) := by
  obtain ⟨b1, b2, b3, b4⟩ := fmOk_spec hf
  obtain ⟨b5, b6⟩ := gOfE_le b1 b2
  have hv := bl_le_len wm (Nat.div_le_self (val m) (2 ^ tz (val m)))
  have hl := nat_len_le wm (Nat.div_le_self (val m) (2 ^ tz (val m)))
  have hn := @RLen_does G (nat (val m / 2 ^ tz (val m))) (by omega) (nat_ws _)
  rw [val_nat] at hn
  have ht : tz (val m) < 64 * m.length + 1 := by
    by_cases h : val m = 0
    · rw [h, tz_zero]; omega
    · have := tz_bound wm h; omega
  refine Does.of (nt := 36) Tryz.func69 rfl rfl rfl (by simp) ?_
  simp only [argTm, PV.ext, Ce.ext]
  refine Do.seqk fun _ k1_ => ?_
  refine Do.region [2,3] true ?_
  simp [go_sem]
  apply k1_; clear k1_
  refine Do.seqk fun _ k2_ => ?_
  refine Do.seqk fun _ k3_ => ?_
  refine Do.region [2,3,9] true ?_
  simp [go_sem]
  repeat (refine And.intro (by first | omega | (intros; omega) | grind) ?_)
  apply k3_; clear k3_
  refine Do.cond [2,3] rfl (fun h => ?_) (fun h => ?_) <;> simp [go_sem] at h ⊢
  · refine Do.seqk fun _ k4_ => ?_
    refine Do.region [4] true ?_
    simp [go_sem]
    apply k4_; clear k4_
    refine Do.ret ?_
    simp [endQ, rets, ret1, go_sem]
    repeat (refine And.intro (by first | omega | (intros; omega) | grind) ?_)
    refine ret_b ?_
    rw [inP, if_neg h]
  · refine Do.skip ?_
    simp [go_sem]
    apply k2_; clear k2_
    refine Do.seqk fun _ k5_ => ?_
    refine Do.region [2,5,6] true ?_
    simp [go_sem]
    repeat (refine And.intro (by first | omega | (intros; omega) | grind) ?_)
    refine DoL.call true 302 rfl rfl rfl rfl (by first | exact trivial | omega | (simp; done) | (simp; omega)) (odd_does hm wm he) rfl (by first | exact .inl rfl | exact .inr rfl) rfl ?_
    simp [go_sem]
    apply k5_; clear k5_
    refine Do.seqk fun _ k6_ => ?_
    refine Do.draw [4] true (by kernel_rfl) ?_
    simp [go_sem]
    refine DoLD.call true 402 rfl rfl rfl rfl (by first | exact trivial | omega | (simp; done) | (simp; omega)) (hn) rfl (by first | exact .inl rfl | exact .inr rfl) rfl ?_
    simp [go_sem]
    repeat (refine And.intro (by first | omega | (intros; omega) | kernel_rfl | grind) ?_)
    refine DoLD.callg true 409 rfl rfl rfl rfl rfl (by simp [go_sem] <;> omega) (fun _ => RTiny_does hf) rfl (by first | exact .inl rfl | exact .inr rfl) rfl ?_
    simp [go_sem]
    refine DoLD.callg true 414 rfl rfl rfl rfl rfl (by simp [go_sem] <;> omega) (fun _ => hn) rfl (by first | exact .inl rfl | exact .inr rfl) rfl ?_
    simp [go_sem]
    repeat (refine And.intro (by first | omega | (intros; omega) | kernel_rfl | grind) ?_)
    refine DoLD.callg true 418 rfl rfl rfl rfl rfl (by simp [go_sem] <;> omega) (fun _ => RGreatest_does hf) rfl (by first | exact .inl rfl | exact .inr rfl) rfl ?_
    simp [go_sem]
    repeat (refine And.intro (by first | omega | (intros; omega) | kernel_rfl | grind) ?_)
    try (refine And.intro (by kernel_rfl) ?_)
    apply k6_; clear k6_
    refine Do.ret ?_
    simp [endQ, rets, ret1, go_sem]
    repeat (refine And.intro (by first | omega | (intros; omega) | grind) ?_)
    refine ret_b ?_
    rw [inP, if_pos h, rcanon, if_pos h]
theorem Known_does {r : Int} : Does Tryz.prog G 51 [.c (.i .i64 r)] (.v (.c (.b (decide (0 ≤ r) && decide (r ≤ 4))))) := by
  refine Does.of (nt := 9) Tryz.func51 rfl rfl rfl (by simp) ?_
  simp only [argTm, PV.ext, Ce.ext]
  refine Do.seqk fun _ k1_ => ?_
  refine Do.region [0] true ?_
  simp [go_sem]
  apply k1_; clear k1_
  refine Do.seqk fun _ k2_ => ?_
  refine Do.region [2] true ?_
  simp [go_sem]
  apply k2_; clear k2_
  refine Do.ret ?_
  simp [endQ, rets, ret1, go_sem]
  repeat (refine And.intro (by first | omega | (intros; omega) | grind) ?_)
  exact TLe.refl _
theorem good_md {x : Flt} (h : (canon x).2 = true) : Md x.e := by
  unfold canon at h
  split at h
  · simp at h; omega
  · split at h
    · simp at h; omega
    · split at h
      · split at h
        · cases h
        · constructor <;> omega
      · cases h
end Go.Proofs.YtokgalpflooegaaGreatDoor
/- What the laws' packages compute of floats. No condition. -/
namespace Go.Proofs.YtokgalpflooegaaGreatDoor
set_option linter.unusedVariables false
set_option linter.unusedSimpArgs false
variable {G : Gl}
set_option maxHeartbeats 2000000
theorem Their_does {k e : Int} {n : Bool} {m : List Nat} : Does Tryz.prog G 18 [Fl k n e m] (.v (Fl k n e m)) := by
  refine Does.of (nt := 12) Tryz.func18 rfl rfl rfl (by simp) ?_
  simp only [argTm, PV.ext, Ce.ext]
  refine Do.seqk fun _ k1_ => ?_
  refine Do.region [1,2] true ?_
  simp [go_sem]
  apply k1_; clear k1_
  refine Do.seqk fun _ k2_ => ?_
  refine Do.region [2] true ?_
  simp [go_sem]
  repeat (refine And.intro (by first | omega | (intros; omega) | grind) ?_)
  apply k2_; clear k2_
  refine Do.ret ?_
  simp [endQ, rets, ret1, go_sem]
  repeat (refine And.intro (by first | omega | (intros; omega) | grind) ?_)
  exact TLe.refl _
theorem Fmt_does {f p : Int} : Does Tryz.prog G 15 [Fm f p] (.v (Fm f p)) := by
  refine Does.of (nt := 8) Tryz.func15 rfl rfl rfl (by simp) ?_
  simp only [argTm, PV.ext, Ce.ext]
  refine Do.seqk fun _ k1_ => ?_
  refine Do.region [1,2] true ?_
  simp [go_sem]
  apply k1_; clear k1_
  refine Do.seqk fun _ k2_ => ?_
  refine Do.region [2] true ?_
  simp [go_sem]
  repeat (refine And.intro (by first | omega | (intros; omega) | grind) ?_)
  apply k2_; clear k2_
  refine Do.ret ?_
  simp [endQ, rets, ret1, go_sem]
  repeat (refine And.intro (by first | omega | (intros; omega) | grind) ?_)
  exact TLe.refl _
theorem None_does {k e : Int} {n : Bool} {m : List Nat} (hm : Sh m) : Does Tryz.prog G 36 [Fl k n e m] (.v (.c (.b (k == 0 && !n && e == 0 && decide (m = []))))) := by
  refine Does.of (nt := 22) Tryz.func36 rfl rfl rfl (by simp) ?_
  simp only [argTm, PV.ext, Ce.ext]
  refine Do.seqk fun _ k1_ => ?_
  refine Do.region [1] true ?_
  simp [go_sem]
  apply k1_; clear k1_
  refine Do.seqk fun _ k2_ => ?_
  refine Do.region [2] true ?_
  simp [go_sem]
  repeat (refine And.intro (by first | omega | (intros; omega) | grind) ?_)
  apply k2_; clear k2_
  refine Do.ret ?_
  simp [endQ, rets, ret1, go_sem]
  repeat (refine And.intro (by first | omega | (intros; omega) | grind) ?_)
  refine ret_b ?_
  cases m with
  | nil => simp
  | cons w m => simp; intro _ _ _; omega
/-- Is a float the canonical one of another, by the words? -/
def isP (k : Int) (n : Bool) (e : Int) (m : List Nat) (y : Flt) : Bool := k == y.k && n == y.n && e == y.e && decide (m = nat y.v)
theorem LIs_does {k e : Int} {n : Bool} {m : List Nat} {k' e' : Int} {n' : Bool} {m' : List Nat} (hm : m.length ≤ 1073741824) (wm : Ws m) (hm' : m'.length ≤ 1073741824) (wm' : Ws m') (he' : Md e') : Does Tryz.prog G 38 [Fl k n e m, Fl k' n' e' m'] (.v (.c (.b (isP k n e m (rcanon ⟨k', n', e', val m'⟩))))) := by
  refine Does.of (nt := 9) Tryz.func38 rfl rfl rfl (by simp) ?_
  simp only [argTm, PV.ext, Ce.ext]
  refine Do.seqk fun _ k1_ => ?_
  refine Do.region [2,3] true ?_
  simp [go_sem]
  apply k1_; clear k1_
  refine Do.seqk fun _ k2_ => ?_
  refine Do.draw [4] true (by kernel_rfl) ?_
  simp [go_sem]
  repeat (refine And.intro (by first | omega | (intros; omega) | kernel_rfl | grind) ?_)
  refine DoLD.call true 102 rfl rfl rfl rfl (by first | exact trivial | omega | (simp; done) | (simp; omega)) (Their_does) rfl (by first | exact .inl rfl | exact .inr rfl) rfl ?_
  simp [go_sem]
  repeat (refine And.intro (by first | omega | (intros; omega) | kernel_rfl | grind) ?_)
  refine DoLD.call true 104 rfl rfl rfl rfl (by first | exact trivial | omega | (simp; done) | (simp; omega)) (Is_does hm wm hm' wm' he') rfl (by first | exact .inl rfl | exact .inr rfl) rfl ?_
  simp [go_sem]
  try (refine And.intro (by kernel_rfl) ?_)
  apply k2_; clear k2_
  refine Do.ret ?_
  simp [endQ, rets, ret1, go_sem]
  repeat (refine And.intro (by first | omega | (intros; omega) | grind) ?_)
  exact TLe.refl _
/-- Does a result fit? -/
def fitsP (x : Fla) (k e : Int) (y : Fla) (fl w : Int) : Bool :=
  if w = 0 then e == 0 && isP x.k x.n x.e x.m (rcanon y.flt) && k == fl else e == w && (x.k == 0 && !x.n && x.e == 0 && decide (x.m = [])) && k == 0
theorem Fits_does {x y : Fla} {k e fl w : Int} (hx : x.m.length ≤ 1073741824) (wx : Ws x.m) (hy : y.m.length ≤ 1073741824) (wy : Ws y.m) (ey : Md y.e) : Does Tryz.prog G 16 [Fl x.k x.n x.e x.m, .c (.i .i64 k), .c (.i .i64 e), Fl y.k y.n y.e y.m, .c (.i .i64 fl), .c (.i .i64 w)] (.v (.c (.b (fitsP x k e y fl w)))) := by
  have hI := @LIs_does G x.k x.e x.n x.m y.k y.e y.n y.m hx wx hy wy ey
  refine Does.of (nt := 38) Tryz.func16 rfl rfl rfl (by simp) ?_
  simp only [argTm, PV.ext, Ce.ext]
  refine Do.seqk fun _ k1_ => ?_
  refine Do.region [1,2,4,5,6,9] true ?_
  simp [go_sem]
  apply k1_; clear k1_
  refine Do.seqk fun _ k2_ => ?_
  refine Do.seqk fun _ k3_ => ?_
  refine Do.region [1,2,4,5,6,9,14] true ?_
  simp [go_sem]
  apply k3_; clear k3_
  refine Do.cond [1,2,4,5,6,9] rfl (fun h => ?_) (fun h => ?_) <;> simp [go_sem] at h ⊢
  · refine Do.seqk fun _ k4_ => ?_
    refine Do.region [12] true ?_
    simp [go_sem]
    repeat (refine And.intro (by first | omega | (intros; omega) | grind) ?_)
    refine DoL.callg true 206 rfl rfl rfl rfl rfl (by simp [go_sem] <;> omega) (fun _ => None_does (by omega)) rfl (by first | exact .inl rfl | exact .inr rfl) rfl ?_
    simp [go_sem]
    apply k4_; clear k4_
    refine Do.ret ?_
    simp [endQ, rets, ret1, go_sem]
    repeat (refine And.intro (by first | omega | (intros; omega) | grind) ?_)
    exact ret_b (by simp [fitsP, h])
  · refine Do.skip ?_
    simp [go_sem]
    apply k2_; clear k2_
    refine Do.seqk fun _ k5_ => ?_
    refine Do.region [12] true ?_
    simp [go_sem]
    repeat (refine And.intro (by first | omega | (intros; omega) | grind) ?_)
    refine DoL.callg true 306 rfl rfl rfl rfl rfl (by simp [go_sem] <;> omega) (fun _ => hI) rfl (by first | exact .inl rfl | exact .inr rfl) rfl ?_
    simp [go_sem]
    apply k5_; clear k5_
    refine Do.ret ?_
    simp [endQ, rets, ret1, go_sem]
    repeat (refine And.intro (by first | omega | (intros; omega) | grind) ?_)
    exact ret_b (by simp [fitsP, h, Fla.flt])
end Go.Proofs.YtokgalpflooegaaGreatDoor
/- The errors of Pair and Expand. No condition. -/
namespace Go.Proofs.YtokgalpflooegaaGreatDoor
set_option linter.unusedVariables false
set_option linter.unusedSimpArgs false
set_option maxHeartbeats 2000000
end Go.Proofs.YtokgalpflooegaaGreatDoor
/- The program awake: three sums. No condition. -/
namespace Go.Proofs.YtokgalpflooegaaGreatDoor
set_option linter.unusedVariables false
set_option linter.unusedSimpArgs false
set_option maxHeartbeats 4000000
set_option maxRecDepth 10000
theorem nat_word {n : Nat} (h0 : n ≠ 0) (h : n < 18446744073709551616) : nat n = [n] := by
  unfold nat; rw [dif_neg h0]; rw [show n / 18446744073709551616 = 0 by omega, nat_zero, Nat.mod_eq_of_lt h]
end Go.Proofs.YtokgalpflooegaaGreatDoor
/- Arguments that read as data, as cells. No condition. -/
namespace Go.Proofs.YtokgalpflooegaaGreatDoor
set_option linter.unusedVariables false
set_option linter.unusedSimpArgs false
open Go.RowKit
/-- What one cell of an argument is. -/
inductive CT where
  | i (k : IntKind)
  | n
  | b
  | w
def ctFields (P : Program) (g : TypeId → Option (List CT)) : List Field → Nat → Option (List CT)
  | [], _ => some []
  | fd :: r, off => match g fd.type with
    | some l => if fd.offset = off ∧ P.cellsOf fd.type = l.length then (ctFields P g r (off + l.length)).map (l ++ ·) else none
    | none => none
def ctOf (P : Program) : Nat → TypeId → Option (List CT)
  | 0, _ => none
  | f + 1, t => match P.underlying t with
    | some .bool => some [.b]
    | some (.int .u64) => some [.n]
    | some (.int k) => some [.i k]
    | some (.slice e) => match P.underlying e with
      | some (.int .u64) => if P.cellsOf e = 1 then some [.w] else none
      | _ => none
    | some (.struct fs) => match ctFields P (ctOf P f) fs.toList 0 with
      | some l => if P.cellsOf t = l.length then some l else none
      | none => none
    | _ => none
/-- A cell of such a kind. -/
def CtIs : CT → Ce → Prop
  | .i k, c => ∃ x, c = .i k x ∧ (Lit.int k x).wf = true
  | .n, c => ∃ x, c = .n x ∧ x < 18446744073709551616
  | .b, c => ∃ x, c = .b x
  | .w, c => ∃ l, c = .w false l ∧ Ws l
section
variable {H : Type} {enc : TypeId × Value → H} {P : Program} {W : World} {ok : Nat → Prop} {base : Nat} {sp : Nat → Bool} {held : Bool}
theorem wf_u64 {x : Int} (h : (Lit.int .u64 x).wf = true) : 0 ≤ x ∧ x < 18446744073709551616 := by
  simp only [Lit.wf, Bool.and_eq_true, decide_eq_true_eq] at h
  have h1 : IntKind.min .u64 = 0 := rfl
  have h2 : IntKind.max .u64 = 18446744073709551615 := rfl
  rw [h1, h2] at h; omega
theorem words_cell (hok : ∀ b, b < W.heap.size → ok b) {t e : TypeId} {fuel : Nat} {cs : List Value} {x : DataW H × List MemPlace} (ht : P.underlying t = some (.slice e)) (he : P.underlying e = some (.int .u64)) (hc : P.cellsOf e = 1)
    (h : DataW.trod enc P W base sp held fuel t cs = some x) : ∃ l, Ws l ∧ ∃ v, cs = [v] ∧ RC (enA W ok) (.w false l) v := by
  rcases ChangeShapes.open_ints ht he hc h with ⟨rfl, _⟩ | ⟨a, len, cap, zs, rfl, _, hl, hm, hz, _, hcell, hwf⟩
  · exact ⟨[], by simp [Ws], _, rfl, none, 0, rfl, Nat.le_refl _, fun i x hi => by simp at hi⟩
  · have hlz : len ≤ zs.length := by rw [hz]; split <;> omega
    have hz0 : ∀ n ∈ zs, 0 ≤ n ∧ n < 18446744073709551616 := fun n hn => wf_u64 (hwf n hn)
    have hll : ((zs.take len).map Int.toNat).length = len := by simp; omega
    refine ⟨(zs.take len).map Int.toNat, fun w hw => ?_, _, rfl, some a, cap, by rw [hll], by rw [hll]; exact hl, fun i x hi => ?_⟩
    · obtain ⟨n, hn, rfl⟩ := List.mem_map.1 hw
      have := hz0 n (List.mem_of_mem_take hn); omega
    · have hil : i < len := by rw [← hll]; exact (List.getElem?_eq_some_iff.1 hi).1
      have hc1 := hcell i (by omega)
      have hx : zs.getD i 0 = x := by
        rw [List.getElem?_map, List.getElem?_take, if_pos hil, List.getElem?_eq_getElem (show i < zs.length by omega)] at hi
        simp only [Option.map_some, Option.some.injEq] at hi
        have := hz0 zs[i] (List.getElem_mem _)
        simp [List.getD, List.getElem?_eq_getElem (show i < zs.length by omega)]; omega
      rw [hx] at hc1
      refine ⟨a, rfl, hok _ ?_, (fun e => by cases e), hc1⟩
      have := World.block_lt_of_cell? W _ hc1
      rwa [add_block] at this
theorem fields_cells (hok : ∀ b, b < W.heap.size → ok b) {g : TypeId → Option (List CT)} {n : Nat} {cs : List Value} (ih : ∀ (t : TypeId) (cts : List CT) (ds : List Value) (y : DataW H × List MemPlace), g t = some cts → DataW.trod enc P W base sp held n t ds = some y → ∃ ces, All2 (RC (enA W ok)) ces ds ∧ All2 CtIs cts ces) :
    ∀ (fs : List Field) (off : Nat) (cts : List CT), ctFields P g fs off = some cts → (∀ fd ∈ fs, ∃ y, DataW.trod enc P W base sp held n fd.type ((cs.drop fd.offset).take (P.cellsOf fd.type)) = some y) → cs.length = off + cts.length → ∃ ces, All2 (RC (enA W ok)) ces (cs.drop off) ∧ All2 CtIs cts ces
  | [], off, cts, h, _, hl => by
    simp only [ctFields, Option.some.injEq] at h; subst h
    rw [List.drop_of_length_le (by simp at hl; omega)]
    exact ⟨[], .nil, .nil⟩
  | fd :: r, off, cts, h, hf, hl => by
    simp only [ctFields] at h
    split at h
    · rename_i l hg
      split at h
      · rename_i ho
        obtain ⟨ho, hc⟩ := ho
        cases hr : ctFields P g r (off + l.length) with
        | none => simp [hr] at h
        | some l2 =>
          simp only [hr, Option.map_some, Option.some.injEq] at h; subst h
          rw [List.length_append] at hl
          obtain ⟨y, hy⟩ := hf fd (by simp)
          rw [ho, hc] at hy
          obtain ⟨c1, a1, m1⟩ := ih _ _ _ _ hg hy
          obtain ⟨c2, a2, m2⟩ := fields_cells hok ih r (off + l.length) l2 hr (fun fd' hf' => hf fd' (List.mem_cons_of_mem _ hf')) (by omega)
          refine ⟨c1 ++ c2, ?_, m1.append m2⟩
          have := a1.append a2
          rwa [show cs.drop (off + l.length) = (cs.drop off).drop l.length by rw [List.drop_drop], List.take_append_drop] at this
      · cases h
    · cases h
theorem trod_cells (hok : ∀ b, b < W.heap.size → ok b) : ∀ (f n : Nat) (t : TypeId) (cts : List CT) (cs : List Value) (x : DataW H × List MemPlace), ctOf P f t = some cts → DataW.trod enc P W base sp held n t cs = some x → ∃ ces, All2 (RC (enA W ok)) ces cs ∧ All2 CtIs cts ces
  | 0, n, t, cts, cs, x, h, _ => by simp [ctOf] at h
  | f + 1, n, t, cts, cs, x, h, hd => by
    simp only [ctOf] at h
    split at h
    · rename_i ht
      injection h with h; subst h
      obtain ⟨b, rfl, _⟩ := DataW.trod_bool ht hd
      exact ⟨[.b b], .cons rfl .nil, .cons ⟨b, rfl⟩ .nil⟩
    · rename_i ht
      injection h with h; subst h
      obtain ⟨n, rfl, _, hw⟩ := DataW.trod_int ht hd
      have := wf_u64 hw
      exact ⟨[.n n.toNat], .cons (by show Value.int .u64 n = .int .u64 (n.toNat : Nat); rw [Int.toNat_of_nonneg this.1]) .nil, .cons ⟨n.toNat, rfl, by omega⟩ .nil⟩
    · rename_i k _ ht
      injection h with h; subst h
      obtain ⟨n, rfl, _, hw⟩ := DataW.trod_int ht hd
      exact ⟨[.i k n], .cons rfl .nil, .cons ⟨n, rfl, hw⟩ .nil⟩
    · rename_i e ht
      split at h
      · rename_i he
        split at h
        · rename_i hc
          injection h with h; subst h
          obtain ⟨l, hw, v, rfl, hv⟩ := words_cell (ok := ok) hok ht he hc hd
          exact ⟨[.w false l], .cons hv .nil, .cons ⟨l, rfl, hw⟩ .nil⟩
        · cases h
      · cases h
    · rename_i fs ht
      split at h
      · rename_i l hl
        split at h
        · rename_i hc
          injection h with h; subst h
          obtain ⟨xs, m, rfl, _, hlen, hxs, hel⟩ := DataW.trod_struct ht hd
          have hff : ∀ fd ∈ fs.toList, ∃ y, DataW.trod enc P W base sp held m fd.type ((cs.drop fd.offset).take (P.cellsOf fd.type)) = some y := fun fd hfd => by
            obtain ⟨i, hi, rfl⟩ := List.getElem_of_mem hfd
            have hi' : i < fs.size := by simpa using hi
            have := hel i fs[i] (by simp [hi'])
            rw [List.getElem?_eq_getElem (by omega)] at this
            exact ⟨_, by simpa using this⟩
          obtain ⟨ces, h1, h2⟩ := fields_cells (cs := cs) hok (fun t cts ds y hg hy => trod_cells hok f m t cts ds y hg hy) fs.toList 0 l hl hff (by omega)
          exact ⟨ces, by simpa using h1, h2⟩
        · cases h
      · cases h
    · cases h
/-- A struct among the arguments. -/
theorem open_struct {b0 : Nat} (hok : ∀ b, b < W.heap.size → ok b) {t : TypeId} {v : Value} {d : DataW H} {ps : List MemPlace} {fs : Array Field} {f : Nat} {cts : List CT} (ht : P.underlying t = some (.struct fs)) (hc : ctOf P f t = some cts) (hval : Value.okWide P W .any b0 t v) (h : DataW.Trod enc P W base sp held t v d ps) : ∃ ces, RP (enA W ok) (.a ces) v ∧ All2 CtIs cts ces := by
  obtain ⟨vs, rfl, _⟩ := WideShapes.okWide_struct ht hval
  obtain ⟨n, hd⟩ := h
  obtain ⟨ces, h1, h2⟩ := trod_cells hok f n t cts _ _ hc hd
  exact ⟨ces, ⟨vs, rfl, h1⟩, h2⟩
end
end Go.Proofs.YtokgalpflooegaaGreatDoor
/- The order of a sum's terms; a rounded result is canonical. No condition. -/
namespace Go.Proofs.YtokgalpflooegaaGreatDoor
set_option linter.unusedVariables false
set_option linter.unusedSimpArgs false
/-- The signed value over a low exponent. -/
def Nu.sv (z : Int) (x : Nu) : Int := if x.n then -((x.v * 2 ^ (x.e - z).toNat : Nat) : Int) else ((x.v * 2 ^ (x.e - z).toNat : Nat) : Int)
theorem pow_split {a b c : Int} (h1 : a ≤ b) (h2 : b ≤ c) : 2 ^ (c - a).toNat = 2 ^ (c - b).toNat * 2 ^ (b - a).toNat := by
  rw [← Nat.pow_add]; congr 1; omega
theorem Nu.plus_sv {z : Int} {a b : Nu} (ha : z ≤ a.e) (hb : z ≤ b.e) : (a.plus b).sv z = a.sv z + b.sv z ∧ z ≤ (a.plus b).e := by
  obtain ⟨n, v, e⟩ := a
  obtain ⟨n', v', e'⟩ := b
  simp only at ha hb
  unfold Nu.plus
  by_cases h0 : v = 0
  · subst h0; simp [Nu.sv, hb]
  · by_cases h1 : v' = 0
    · subst h1; simp [Nu.sv, h0, ha]
    · simp only [h0, h1, if_false]
      generalize hm : (if e' < e then e' else e) = m
      have hm1 : m ≤ e ∧ m ≤ e' ∧ z ≤ m := by split at hm <;> omega
      have e1 : v * 2 ^ (e - z).toNat = v * 2 ^ (e - m).toNat * 2 ^ (m - z).toNat := by rw [pow_split hm1.2.2 hm1.1, Nat.mul_assoc]
      have e2 : v' * 2 ^ (e' - z).toNat = v' * 2 ^ (e' - m).toNat * 2 ^ (m - z).toNat := by rw [pow_split hm1.2.2 hm1.2.1, Nat.mul_assoc]
      simp only [Nu.sv, e1, e2]
      generalize v * 2 ^ (e - m).toNat = x
      generalize v' * 2 ^ (e' - m).toNat = y
      obtain ⟨k, hk⟩ : ∃ k, 2 ^ (m - z).toNat = k := ⟨_, rfl⟩
      simp only [hk]
      have hp : (x + y) * k = x * k + y * k := Nat.add_mul x y k
      have hs : (x - y) * k = x * k - y * k := Nat.sub_mul x y k
      have hs' : (y - x) * k = y * k - x * k := Nat.sub_mul y x k
      have hle := fun h : y ≤ x => Nat.mul_le_mul_right k h
      have hle' := fun h : ¬ y ≤ x => Nat.mul_le_mul_right k (show x ≤ y by omega)
      generalize x * k = X at *
      generalize y * k = Y at *
      by_cases hyx : y ≤ x
      · have := hle hyx
        cases n <;> cases n' <;> simp only [hyx, if_true, if_false, hk, hp, hs, reduceCtorEq, Bool.false_eq_true] <;> omega
      · have := hle' hyx
        cases n <;> cases n' <;> simp only [hyx, if_true, if_false, hk, hp, hs', reduceCtorEq, Bool.false_eq_true] <;> omega
/-- The signed values of the finite terms, added. -/
def svs (z : Int) : List Flt → Int
  | [] => 0
  | x :: l => (if x.k = 1 then (⟨x.n, x.v, x.e⟩ : Nu).sv z else 0) + svs z l
theorem svs_append (z : Int) (l m : List Flt) : svs z (l ++ m) = svs z l + svs z m := by
  induction l with
  | nil => simp [svs]
  | cons x l ih => simp only [List.cons_append, svs, ih]; omega
/-- What holds of a sum of such terms. -/
structure GaIs (z : Int) (l : List Flt) (g : Ga) : Prop where
  sum : g.sum.sv z = svs z l
  low : z ≤ g.sum.e
  nan : g.nan = l.any fun x => x.k == 3
  inv : g.inv = false
  plus : g.plus = l.any fun x => x.k == 2 && !x.n
  minus : g.minus = l.any fun x => x.k == 2 && x.n
  seen : g.seen = l.any fun _ => true
  some_ : g.some_ = l.any fun x => x.k == 1 || (x.k != 2 && x.k != 3 && !x.n)
  other : g.other = l.any fun x => x.k == 1 || (x.k != 2 && x.k != 3 && x.n)
theorem GaIs.put {z : Int} {l : List Flt} {g : Ga} (h : GaIs z l g) {x : Flt} (hx : x.k = 1 → z ≤ x.e) : GaIs z (l ++ [x]) (g.put x.k ⟨x.n, x.v, x.e⟩) := by
  obtain ⟨h1, h2, h3, h4, h5, h6, h7, h8, h9⟩ := h
  obtain ⟨k, n, e, v⟩ := x
  simp only at hx
  unfold Ga.put
  by_cases k3 : k = 3
  · subst k3; constructor <;> simp_all [svs_append, svs]
  · by_cases k2 : k = 2
    · subst k2; constructor <;> simp_all [svs_append, svs]
    · by_cases k1 : k = 1
      · subst k1
        have := Nu.plus_sv h2 (b := ⟨n, v, e⟩) (hx rfl)
        constructor <;> simp_all [svs_append, svs]
      · have b1 : (k == 1) = false := by simp [k1]
        have b2 : (k == 2) = false := by simp [k2]
        have b3 : (k == 3) = false := by simp [k3]
        constructor <;> simp [svs_append, svs, bne, b1, b2, b3, k1, k2, k3, h1, h2, h3, h4, h5, h6, h7, h8, h9]
theorem cutP_scale (v k : Nat) (s : Int) : cutP (v * 2 ^ k) (s + k) false = cutP v s false := by
  unfold cutP
  by_cases h : s ≤ 0
  · rw [if_pos h]
    by_cases h' : s + k ≤ 0
    · rw [if_pos h', Nat.mul_assoc, ← Nat.pow_add, show k + (-(s + k)).toNat = (-s).toNat by omega]
    · rw [if_neg h']
      have e1 : v * 2 ^ k = v * 2 ^ (-s).toNat * 2 ^ (s + k).toNat := by rw [Nat.mul_assoc, ← Nat.pow_add, show (-s).toNat + (s + k).toNat = k by omega]
      have e2 : 2 ^ (s + k).toNat = 2 * 2 ^ (s + k - 1).toNat := by rw [show (s + k).toNat = (s + k - 1).toNat + 1 by omega, Nat.pow_succ']
      have hp : 0 < 2 ^ (s + k - 1).toNat := Nat.pow_pos (by decide)
      have e3 : v * 2 ^ k = v * 2 ^ (-s).toNat * 2 * 2 ^ (s + k - 1).toNat := by rw [e1, e2, Nat.mul_assoc, Nat.mul_assoc, Nat.mul_assoc]
      rw [e3, Nat.mul_mod_left, Nat.mul_div_cancel _ hp, ← e3, e1, Nat.mul_div_cancel _ (Nat.pow_pos (by decide))]
      simp
  · rw [if_neg h, if_neg (by omega)]
    have e1 : (s + k).toNat = s.toNat + k := by omega
    have e2 : (s + k - 1).toNat = (s - 1).toNat + k := by omega
    have hp : 0 < 2 ^ k := Nat.pow_pos (by decide)
    rw [e1, e2, Nat.pow_add, Nat.pow_add, Nat.mul_div_mul_right _ _ hp, Nat.mul_div_mul_right _ _ hp, Nat.mul_mod_mul_right]
    have : decide (v % 2 ^ (s - 1).toNat * 2 ^ k = 0) = decide (v % 2 ^ (s - 1).toNat = 0) := by
      congr 1
      simp only [Nat.mul_eq_zero, eq_iff_iff]
      exact ⟨fun h => h.resolve_right (by omega), .inl⟩
    rw [this]
theorem roundP_scale {f p r : Int} {n : Bool} {v : Nat} (k : Nat) {e : Int} (hv : 0 < v) : roundP f p r n (v * 2 ^ k) (e - k) false = roundP f p r n v e false := by
  unfold roundP
  rw [bl_mul_pow _ _ hv, show e - k + ((k + bl v : Nat) : Int) - 1 = e + bl v - 1 by omega]
  simp only [show ∀ u : Int, u - (e - k) = u - e + k from fun u => by omega, cutP_scale]
theorem Nu.round_sv {z : Int} {a b : Nu} (ha : z ≤ a.e) (hb : z ≤ b.e) (h : a.sv z = b.sv z) (f p r : Int) (q : Bool) : a.round f p r q = b.round f p r q := by
  obtain ⟨n, v, e⟩ := a
  obtain ⟨n', v', e'⟩ := b
  simp only at ha hb
  unfold Nu.sv at h
  unfold Nu.round
  simp only at h ⊢
  have p1 : 0 < 2 ^ (e - z).toNat := Nat.pow_pos (by decide)
  have p2 : 0 < 2 ^ (e' - z).toNat := Nat.pow_pos (by decide)
  have z1 : v * 2 ^ (e - z).toNat = 0 ↔ v = 0 := by rw [Nat.mul_eq_zero]; omega
  have z2 : v' * 2 ^ (e' - z).toNat = 0 ↔ v' = 0 := by rw [Nat.mul_eq_zero]; omega
  have s1 := fun hv => @roundP_scale f p r n v (e - z).toNat e hv
  have s2 := fun hv => @roundP_scale f p r n' v' (e' - z).toNat e' hv
  rw [show e - ((e - z).toNat : Int) = z by omega] at s1
  rw [show e' - ((e' - z).toNat : Int) = z by omega] at s2
  generalize v * 2 ^ (e - z).toNat = A at *
  generalize v' * 2 ^ (e' - z).toNat = B at *
  by_cases h0 : v = 0
  · have : v' = 0 := by rw [← z2]; have := z1.2 h0; cases n <;> cases n' <;> simp at h <;> omega
    rw [if_pos h0, if_pos this]
  · have hA : A ≠ 0 := fun h => h0 (z1.1 h)
    have : v' ≠ 0 := by intro h; have := z2.2 h; cases n <;> cases n' <;> simp at h <;> omega
    rw [if_neg h0, if_neg this, ← s1 (by omega), ← s2 (by omega)]
    have hB : B ≠ 0 := fun h => this (z2.1 h)
    cases n <;> cases n' <;> simp at h <;> first | omega | (obtain rfl : A = B := by omega
                                                            rfl)
/-- A result that Same and Is answer of. -/
structure Fine (x : Flt) : Prop where
  can : (canon x).2 = true
  v : bl x.v ≤ 100000
theorem fine_zero {n : Bool} : Fine ⟨0, n, 0, 0⟩ := ⟨rfl, (show bl 0 ≤ 100000 by decide)⟩
theorem tz_lt_bl {q : Nat} (h : 0 < q) : tz q < bl q := by
  rw [bl_le]
  obtain ⟨m, hm⟩ := tz_form h
  conv => rhs; rw [hm]
  exact Nat.le_mul_of_pos_right _ (by omega)
theorem tz_rest {q : Nat} (h : 0 < q) : tz (q / 2 ^ tz q) = 0 := by
  obtain ⟨m, hm⟩ := tz_form h
  have : q / 2 ^ tz q = 2 * m + 1 := by
    conv => lhs; arg 1; rw [hm]
    exact Nat.mul_div_cancel_left _ (Nat.pow_pos (by decide))
  rw [this]
  exact tz_odd1 (by omega)
theorem fine_one {n : Bool} {v : Nat} {e : Int} (h1 : 0 < v) (h2 : tz v = 0) (h3 : -1048576 ≤ e) (h4 : e ≤ 1048576) (h5 : bl v ≤ 100000) : Fine ⟨1, n, e, v⟩ := by
  refine ⟨?_, h5⟩
  unfold canon
  simp only []
  rw [if_neg (by omega), if_neg (by omega), if_pos trivial, if_neg (by omega)]
  simp [h2]; omega
theorem mkP_fine {n : Bool} {q : Nat} {u : Int} (h1 : -1048576 ≤ u) (h2 : u + bl q ≤ 1048576) (h3 : bl q ≤ 100000) : Fine (mkP n q u) := by
  unfold mkP
  split
  · exact fine_zero
  · have hq : 0 < q := by omega
    have := tz_lt_bl hq
    have h := Nat.div_pos (Nat.le_of_lt_succ (Nat.lt_succ_of_le ((bl_le q (tz q)).1 this))) (Nat.pow_pos (n := tz q) (show 0 < 2 by decide))
    exact fine_one h (tz_rest hq) (by omega) (by omega) (Nat.le_trans (bl_mono (Nat.div_le_self _ _)) h3)
theorem Fine.same {x : Flt} (h : Fine x) : sameP x x = true := by simp [sameP, h.can]
theorem Fine.sh {x : Flt} (h : Fine x) : Sh (nat x.v) := by
  have := nat_len_bl x.v
  have := h.v
  unfold Sh
  omega
theorem Fine.e {x : Flt} (h : Fine x) : I64 x.e := by
  have := good_md h.can
  simp only [Md, I64] at *
  omega
end Go.Proofs.YtokgalpflooegaaGreatDoor
