/- The digits of the reference. No condition. The natural numbers of the reference: canonical words, lengths. No condition. Bits and shifts of the reference. No condition. The floats of the reference. No condition. The formats of the reference, and its check of arguments. No condition. What the laws' packages compute of floats. No condition. The errors of Pair and Expand. No condition. The program awake: three sums. No condition. -/
import Derived.Test.YtbhokdhkfodpfaaDoorMf
import Derived.Test.YtbhokdhkfodpfaaDoorMd
import Derived.Test.YtbhokdhkfodpfaaDoorMe
/- The digits of the reference. No condition. -/
namespace Go.Proofs.YtbhokdhkfodpfaaDoor
set_option linter.unusedVariables false
set_option linter.unusedSimpArgs false
variable {G : Gl}
set_option maxHeartbeats 2000000
attribute [go_sem] dg_len wds_len
theorem Digits_does {x : List Nat} (hx : x.length ≤ 1073741824) (hw : Ws x) : Does Tryd.prog G 90 [Wd x] (.v (Wn (dg (val x) (2 * x.length)))) := by
  refine Does.of (nt := 25) Tryd.func90 rfl rfl rfl (by simp) ?_
  simp only [argTm, PV.ext, Ce.ext]
  refine Do.seqk fun _ k1_ => ?_
  refine Do.region [0] true ?_
  simp [go_sem]
  apply k1_; clear k1_
  refine Do.seqk fun _ k2_ => ?_
  refine Do.region [0,3] true ?_
  simp [go_sem]
  apply k2_; clear k2_
  refine Do.seqk fun _ k3_ => ?_
  refine Do.seqk fun _ k4_ => ?_
  refine Do.region [0,3,4] true ?_
  simp [go_sem]
  apply k4_; clear k4_
  refine Do.block ?_
  refine Do.ownW 3 900 rfl rfl (by decide) ?_
  simp [go_sem]
  refine Do.loopF [0,3,4] (fun (i : Nat) => [(3, .v (.c (.r 900 (2 * i)))), (4, .int .i64 i)]) (fun (i : Nat) => [(900, .wr (dg (val x) (2 * i)))]) (fun (i : Nat) => i ≤ x.length) (fun (i : Nat) => x.length - i) (0) (fun _ => by first | (simp [go_sem, mixS]; done) | (simp [go_sem, mixS]; rfl)) (St.le_of (by first | rfl | simp [keep]) (by first | rfl | simp [keep])) (Nat.zero_le _) ?_
  intro i hi
  refine Do.seqk fun _ k5_ => ?_
  refine Do.seqk fun _ k6_ => ?_
  refine Do.region [0,3,4,8] true ?_
  simp [go_sem]
  repeat (refine And.intro (by first | omega | (intros; omega) | grind) ?_)
  apply k6_; clear k6_
  refine Do.cond [0,3,4] rfl (fun h => ?_) (fun h => ?_) <;> simp [go_sem] at h ⊢
  · have hg := ws_get hw h
    refine Do.skip ?_
    simp [go_sem]
    apply k5_; clear k5_
    refine Do.seqk fun _ k7_ => ?_
    refine Do.block ?_
    refine Do.draw [0,3,4] true (by kernel_rfl) ?_
    simp [go_sem, hg]
    repeat (refine And.intro (by first | omega | (intros; omega) | kernel_rfl | grind) ?_)
    try (refine And.intro (by kernel_rfl) ?_)
    apply k7_; clear k7_
    refine Do.region [0,3,4] true ?_
    simp [go_sem, hg]
    repeat (refine And.intro (by first | omega | (intros; omega) | grind) ?_)
    refine ⟨i + 1, St.le_of rfl (by simp [keep, dg_two]), by omega, by simp; omega⟩
  · refine Do.exit ?_
    simp [go_sem]
    apply k3_; clear k3_
    refine Do.seqk fun _ k8_ => ?_
    refine Do.region [2] true ?_
    simp [go_sem]
    apply k8_; clear k8_
    refine Do.ret ?_
    simp [endQ, rets, ret1, go_sem]
    repeat (refine And.intro (by first | omega | (intros; omega) | grind) ?_)
    have e : i = x.length := by omega
    subst e
    exact TLe.refl _
theorem Short_does {n k : Nat} (hk : k ≤ 4294967296) (h : n < 4294967296 ^ k) : Does Tryd.prog G 91 [Wd (dg n k)] (.v (Wd (dg n (dl n)))) := by
  refine Does.of (nt := 21) Tryd.func91 rfl rfl rfl (by simp) ?_
  simp only [argTm, PV.ext, Ce.ext]
  refine Do.seqk fun _ k1_ => ?_
  refine Do.region [0] true ?_
  simp [go_sem]
  apply k1_; clear k1_
  refine Do.seqk fun _ k2_ => ?_
  refine Do.region [0,3] true ?_
  simp [go_sem]
  repeat (refine And.intro (by first | omega | (intros; omega) | grind) ?_)
  apply k2_; clear k2_
  refine Do.seqk fun _ k3_ => ?_
  refine Do.block ?_
  refine Do.loopF [0,3] (fun (i : Nat) => [(3, .int .i64 i)]) (fun (i : Nat) => []) (fun (i : Nat) => i ≤ k ∧ n < 4294967296 ^ i) (fun (i : Nat) => i) (k) (fun _ => by first | (simp [go_sem, mixS]; done) | (simp [go_sem, mixS]; rfl)) (St.le_of (by first | rfl | simp [keep]) (by first | rfl | simp [keep])) (⟨Nat.le_refl _, h⟩) ?_
  rintro i ⟨hi, hn⟩
  refine Do.seqk fun _ k4_ => ?_
  refine Do.seqk fun _ k5_ => ?_
  refine Do.region [0,3,15] true ?_
  simp [go_sem]
  repeat (refine And.intro (by first | omega | (intros; omega) | grind) ?_)
  apply k5_; clear k5_
  refine Do.cond [0,3] rfl (fun h2 => ?_) (fun h2 => ?_) <;> simp [go_sem] at h2 ⊢
  · rw [dg_get (by omega)] at h2
    refine Do.skip ?_
    simp [go_sem]
    apply k4_; clear k4_
    refine Do.block ?_
    refine Do.region [0,3] true ?_
    simp [go_sem]
    repeat (refine And.intro (by first | omega | (intros; omega) | grind) ?_)
    refine ⟨i - 1, St.le_of (by simp [keep]; omega) rfl, ⟨by omega, dg_eq_zero hn (by simpa using h2.2) h2.1⟩, by simp; omega⟩
  · refine Do.exit ?_
    simp [go_sem]
    apply k3_; clear k3_
    refine Do.seqk fun _ k6_ => ?_
    refine Do.region [2] true ?_
    simp [go_sem]
    repeat (refine And.intro (by first | omega | (intros; omega) | grind) ?_)
    apply k6_; clear k6_
    refine Do.ret ?_
    simp [endQ, rets, ret1, go_sem]
    repeat (refine And.intro (by first | omega | (intros; omega) | grind) ?_)
    have e : dl n = i := by
      have h3 := dl_lt.2 hn
      apply Classical.byContradiction
      intro h4
      have h5 := h2 (by omega)
      rw [dg_get (by omega), dg_lt (dl_lt.1 (Nat.le_refl _)) (by omega)] at h5
      exact h5 rfl
    rw [dg_take hi, e]
    exact TLe.refl _
theorem Row_does {n k : Nat} (hk : k ≤ 4294967296) : Does Tryd.prog G 93 [Wd (dg n k)] (.v (Wn (wds n (k / 2)))) := by
  refine Does.of (nt := 27) Tryd.func93 rfl rfl rfl (by simp) ?_
  simp only [argTm, PV.ext, Ce.ext]
  refine Do.seqk fun _ k1_ => ?_
  refine Do.region [0] true ?_
  simp [go_sem]
  apply k1_; clear k1_
  refine Do.seqk fun _ k2_ => ?_
  refine Do.region [0,3] true ?_
  simp [go_sem]
  apply k2_; clear k2_
  refine Do.seqk fun _ k3_ => ?_
  refine Do.seqk fun _ k4_ => ?_
  refine Do.region [0,3,4] true ?_
  simp [go_sem]
  apply k4_; clear k4_
  refine Do.block ?_
  refine Do.ownW 3 900 rfl rfl (by decide) ?_
  simp [go_sem]
  refine Do.loopF [0,3,4] (fun (i : Nat) => [(3, .v (.c (.r 900 i))), (4, .int .i64 (2 * i))]) (fun (i : Nat) => [(900, .wr (wds n i))]) (fun (i : Nat) => 2 * i ≤ k) (fun (i : Nat) => k - i) (0) (fun _ => by first | (simp [go_sem, mixS]; done) | (simp [go_sem, mixS]; rfl)) (St.le_of (by first | rfl | simp [keep]) (by first | rfl | simp [keep])) (Nat.zero_le _) ?_
  intro i hi
  refine Do.seqk fun _ k5_ => ?_
  refine Do.seqk fun _ k6_ => ?_
  refine Do.region [0,3,4,9] true ?_
  simp [go_sem]
  repeat (refine And.intro (by first | omega | (intros; omega) | grind) ?_)
  apply k6_; clear k6_
  refine Do.cond [0,3,4] rfl (fun h => ?_) (fun h => ?_) <;> simp [go_sem] at h ⊢
  · obtain ⟨a, b, hg1, hg2, ha, hb, hab⟩ := dg_pair (n := n) (k := k) (i := i) (by omega)
    refine Do.skip ?_
    simp [go_sem]
    apply k5_; clear k5_
    refine Do.seqk fun _ k7_ => ?_
    refine Do.block ?_
    refine Do.draw [0,3,4] true (by kernel_rfl) ?_
    simp [go_sem, hg1, hg2, show ((2 : Int) * i).toNat = 2 * i by omega, show ((2 : Int) * i + 1).toNat = 2 * i + 1 by omega]
    repeat (refine And.intro (by first | omega | (intros; omega) | kernel_rfl | grind) ?_)
    try (refine And.intro (by kernel_rfl) ?_)
    apply k7_; clear k7_
    refine Do.region [0,3,4] true ?_
    simp [go_sem, hg1, hg2, show ((2 : Int) * i).toNat = 2 * i by omega, show ((2 : Int) * i + 1).toNat = 2 * i + 1 by omega]
    repeat (refine And.intro (by first | omega | (intros; omega) | grind) ?_)
    refine ⟨i + 1, St.le_of (by simp [keep]; omega) (by simp [keep, wds_snoc, hab]), by omega, by simp; omega⟩
  · refine Do.exit ?_
    simp [go_sem]
    apply k3_; clear k3_
    refine Do.seqk fun _ k8_ => ?_
    refine Do.region [2] true ?_
    simp [go_sem]
    apply k8_; clear k8_
    refine Do.ret ?_
    simp [endQ, rets, ret1, go_sem]
    repeat (refine And.intro (by first | omega | (intros; omega) | grind) ?_)
    rw [show k / 2 = i by omega]
    exact TLe.refl _
end Go.Proofs.YtbhokdhkfodpfaaDoor
/- The natural numbers of the reference: canonical words, lengths. No condition. -/
namespace Go.Proofs.YtbhokdhkfodpfaaDoor
set_option linter.unusedVariables false
set_option linter.unusedSimpArgs false
variable {G : Gl}
set_option maxHeartbeats 2000000
theorem Cut_does {n k m : Nat} (hk : k ≤ 2147483648) (hm : m ≤ 1073741824) (h : n < 4294967296 ^ k) : Does Tryd.prog G 92 [Wd (dg n k), .c (.i .i64 m)] (.t [Wn (wds n m), .c (.n (n / 18446744073709551616 ^ m % 18446744073709551616))]) := by
  have hz : ∀ j, k ≤ j → n / 4294967296 ^ j % 4294967296 = 0 := fun j hj => dg_lt h hj
  clear h
  refine Does.of (nt := 37) Tryd.func92 rfl rfl rfl (by simp) ?_
  simp only [argTm, PV.ext, Ce.ext]
  refine Do.seqk fun _ k1_ => ?_
  refine Do.region [0,1] true ?_
  simp [go_sem]
  apply k1_; clear k1_
  refine Do.seqk fun _ k2_ => ?_
  refine Do.region [0,1,6] true ?_
  simp [go_sem]
  apply k2_; clear k2_
  refine Do.seqk fun _ k3_ => ?_
  refine Do.ownW 6 900 rfl rfl (by decide) ?_
  refine Do.region [1,6] true ?_
  simp [go_sem]
  repeat (refine And.intro (by first | omega | (intros; omega) | grind) ?_)
  apply k3_; clear k3_
  refine Do.seqk fun _ k4_ => ?_
  refine Do.block ?_
  refine Do.loopF [1,6] (fun (j : Nat) => [(6, .v (.c (.r 900 j)))]) (fun (j : Nat) => [(900, .wr (dg n j))]) (fun (j : Nat) => k ≤ j ∧ (j ≤ k ∨ j ≤ 2 * m + 2)) (fun (j : Nat) => 2 * m + 2 - j) (k) (fun _ => by first | (simp [go_sem, mixS]; done) | (simp [go_sem, mixS]; rfl)) (St.le_of (by first | rfl | simp [keep]) (by first | rfl | simp [keep])) (⟨Nat.le_refl _, .inl (Nat.le_refl _)⟩) ?_
  rintro j ⟨hj, hj2⟩
  refine Do.seqk fun _ k5_ => ?_
  refine Do.seqk fun _ k6_ => ?_
  refine Do.region [1,6,15] true ?_
  simp [go_sem]
  repeat (refine And.intro (by first | omega | (intros; omega) | grind) ?_)
  apply k6_; clear k6_
  refine Do.cond [1,6] rfl (fun h2 => ?_) (fun h2 => ?_) <;> simp [go_sem] at h2 ⊢
  · refine Do.skip ?_
    simp [go_sem]
    apply k5_; clear k5_
    refine Do.block ?_
    refine Do.region [1,6] true ?_
    simp [go_sem]
    repeat (refine And.intro (by first | omega | (intros; omega) | grind) ?_)
    refine ⟨j + 1, St.le_of rfl (by simp [keep, dg_snoc, hz j hj]), by omega, by simp; omega⟩
  · obtain ⟨a, b, hg1, hg2, ha, hb, hab⟩ := dg_pair (n := n) (k := j) (i := m) (by omega)
    have htk : List.take (2 * m) (dg n j) = dg n (2 * m) := dg_take (by omega)
    refine Do.exit ?_
    simp [go_sem]
    apply k4_; clear k4_
    refine Do.seqk fun _ k7_ => ?_
    refine Do.frz 900 rfl ?_
    refine Do.draw [4,5] true (by kernel_rfl) ?_
    simp [go_sem, hg1, hg2, htk, show ((2 : Int) * m).toNat = 2 * m by omega, show ((2 : Int) * m + 1).toNat = 2 * m + 1 by omega]
    repeat (refine And.intro (by first | omega | (intros; omega) | kernel_rfl | grind) ?_)
    refine DoLD.call true 505 rfl rfl rfl rfl (by first | exact trivial | omega | (simp; done) | (simp; omega)) (Row_does (n := n) (k := 2 * m) (by omega)) rfl (by first | exact .inl rfl | exact .inr rfl) rfl ?_
    simp [go_sem, hg1, hg2, htk, show ((2 : Int) * m).toNat = 2 * m by omega, show ((2 : Int) * m + 1).toNat = 2 * m + 1 by omega]
    repeat (refine And.intro (by first | omega | (intros; omega) | kernel_rfl | grind) ?_)
    try (refine And.intro (by kernel_rfl) ?_)
    apply k7_; clear k7_
    refine Do.ret ?_
    simp [endQ, rets, ret1, go_sem, hg1, hg2, htk, show ((2 : Int) * m).toNat = 2 * m by omega, show ((2 : Int) * m + 1).toNat = 2 * m + 1 by omega]
    repeat (refine And.intro (by first | omega | (intros; omega) | grind) ?_)
    rw [hab]
    exact TLe.refl _
theorem rnat_does {n k : Nat} (hk : k ≤ 2147483648) (h : n < 4294967296 ^ k) : Does Tryd.prog G 89 [Wd (dg n k)] (.v (Wn (nat n))) := by
  have hl := dl_lt.2 h
  have hc := @Cut_does G n (dl n) ((dl n + 1) / 2) (by omega) (by omega) (dl_lt.1 (Nat.le_refl _))
  have hs := @Short_does G n k (by omega) h
  rw [nat_dl] at hc
  generalize n / 18446744073709551616 ^ ((dl n + 1) / 2) % 18446744073709551616 = z at hc
  refine Does.of (nt := 19) Tryd.func89 rfl rfl rfl (by simp) ?_
  simp only [argTm, PV.ext, Ce.ext]
  refine Do.seqk fun _ k1_ => ?_
  refine Do.region [0] true ?_
  simp [go_sem]
  apply k1_; clear k1_
  refine Do.seqk fun _ k2_ => ?_
  refine Do.region [0] true ?_
  simp [go_sem]
  refine DoL.call true 102 rfl rfl rfl rfl (by first | exact trivial | omega | (simp; done) | (simp; omega)) (hs) rfl (by first | exact .inl rfl | exact .inr rfl) rfl ?_
  simp [go_sem]
  apply k2_; clear k2_
  refine Do.seqk fun _ k3_ => ?_
  refine Do.region [0,3] true ?_
  simp [go_sem]
  repeat (refine And.intro (by first | omega | (intros; omega) | grind) ?_)
  rw [show ((dl n : Int) + 1) / 2 = (((dl n + 1) / 2 : Nat) : Int) by omega]
  apply k3_; clear k3_
  refine Do.seqk fun _ k4_ => ?_
  refine Do.region [4] true ?_
  simp [go_sem]
  refine DoL.call true 303 rfl rfl rfl rfl (by first | exact trivial | omega | (simp; done) | (simp; omega)) (hc) rfl (by first | exact .inl rfl | exact .inr rfl) rfl ?_
  simp [go_sem]
  apply k4_; clear k4_
  refine Do.seqk fun _ k5_ => ?_
  refine Do.region [2] true ?_
  simp [go_sem]
  apply k5_; clear k5_
  refine Do.ret ?_
  simp [endQ, rets, ret1, go_sem]
  repeat (refine And.intro (by first | omega | (intros; omega) | grind) ?_)
  exact TLe.refl _
theorem RTrim_does {x : List Nat} (hx : x.length ≤ 1073741824) (hw : Ws x) : Does Tryd.prog G 86 [Wd x] (.v (Wn (nat (val x)))) := by
  have hn := @rnat_does G (val x) (2 * x.length) (by omega) (by have := val_lt hw; rwa [HB] at this)
  refine Does.of (nt := 6) Tryd.func86 rfl rfl rfl (by simp) ?_
  simp only [argTm, PV.ext, Ce.ext]
  refine Do.seqk fun _ k1_ => ?_
  refine Do.region [0] true ?_
  simp [go_sem]
  apply k1_; clear k1_
  refine Do.seqk fun _ k2_ => ?_
  refine Do.region [2] true ?_
  simp [go_sem]
  refine DoL.call true 102 rfl rfl rfl rfl (by first | exact trivial | omega | (simp; done) | (simp; omega)) (Digits_does hx hw) rfl (by first | exact .inl rfl | exact .inr rfl) rfl ?_
  simp [go_sem]
  refine DoL.call true 103 rfl rfl rfl rfl (by first | exact trivial | omega | (simp; done) | (simp; omega)) (hn) rfl (by first | exact .inl rfl | exact .inr rfl) rfl ?_
  simp [go_sem]
  apply k2_; clear k2_
  refine Do.ret ?_
  simp [endQ, rets, ret1, go_sem]
  repeat (refine And.intro (by first | omega | (intros; omega) | grind) ?_)
  exact TLe.refl _
/-- The lowest bit 1 among i bits; how many are 1. -/
def trl (w : Nat) : Nat → Int
  | 0 => 64
  | i + 1 => if w / 2 ^ i % 2 = 1 then (if (i : Int) < trl w i then i else trl w i) else trl w i
def ones (w : Nat) : Nat → Int
  | 0 => 0
  | i + 1 => if w / 2 ^ i % 2 = 1 then ones w i + 1 else ones w i
theorem ones_le (w : Nat) : ∀ i, 0 ≤ ones w i ∧ ones w i ≤ i
  | 0 => by simp [ones]
  | i + 1 => by have := ones_le w i; simp only [ones]; split <;> omega
theorem bl_bit (w i : Nat) : bl (w % 2 ^ (i + 1)) = if w / 2 ^ i % 2 = 1 then i + 1 else bl (w % 2 ^ i) := by
  rw [Nat.pow_succ, Nat.mod_mul]
  have h1 : w % 2 ^ i < 2 ^ i := Nat.mod_lt _ (Nat.pow_pos (by decide))
  split
  · rename_i h; rw [h]
    exact bl_add h1 (by decide)
  · rename_i h; rw [show w / 2 ^ i % 2 = 0 by omega]; simp
theorem bl_le_i (w i : Nat) : bl (w % 2 ^ i) ≤ i := (bl_lt _ _).2 (Nat.mod_lt _ (Nat.pow_pos (by decide)))
theorem Count_does {w : Nat} (hw : w < 18446744073709551616) : Does Tryd.prog G 69 [.c (.n w)] (.t [.c (.i .i64 (64 - bl w)), .c (.i .i64 (trl w 64)), .c (.i .i64 (ones w 64))]) := by
  refine Does.of (nt := 28) Tryd.func69 rfl rfl rfl (by simp) ?_
  simp only [argTm, PV.ext, Ce.ext]
  refine Do.seqk fun _ k1_ => ?_
  refine Do.region [0] true ?_
  simp [go_sem]
  apply k1_; clear k1_
  refine Do.seqk fun _ k2_ => ?_
  refine Do.region [0,5,6,7] true ?_
  simp [go_sem]
  apply k2_; clear k2_
  refine Do.seqk fun _ k3_ => ?_
  refine Do.seqk fun _ k4_ => ?_
  refine Do.region [0,5,6,7,8] true ?_
  simp [go_sem]
  apply k4_; clear k4_
  refine Do.block ?_
  refine Do.loopF [0,5,6,7,8] (fun (i : Nat) => [(5, .int .i64 (64 - bl (w % 2 ^ i))), (6, .int .i64 (trl w i)), (7, .int .i64 (ones w i)), (8, .int .i64 i)]) (fun (i : Nat) => []) (fun (i : Nat) => i ≤ 64) (fun (i : Nat) => 64 - i) (0) (fun _ => by first | (simp [go_sem, mixS]; done) | (simp [go_sem, mixS]; rfl)) (St.le_of (by simp [keep, Nat.mod_one, bl_zero, trl, ones]) rfl) (Nat.zero_le _) ?_
  intro i hi
  have hb := bl_bit w i
  have ho := ones_le w i
  have hbl := bl_le_i w i
  refine Do.seqk fun _ k5_ => ?_
  refine Do.seqk fun _ k6_ => ?_
  refine Do.region [0,5,6,7,8,10] true ?_
  simp [go_sem]
  apply k6_; clear k6_
  refine Do.cond [0,5,6,7,8] rfl (fun h => ?_) (fun h => ?_) <;> simp [go_sem] at h ⊢
  · refine Do.skip ?_
    simp [go_sem]
    apply k5_; clear k5_
    refine Do.seqk fun _ k7_ => ?_
    refine Do.block ?_
    refine Do.seqk fun _ k8_ => ?_
    refine Do.region [0,5,6,7,8,17] true ?_
    simp [go_sem]
    repeat (refine And.intro (by first | omega | (intros; omega) | grind) ?_)
    have hd : w / 2 ^ i < 18446744073709551616 := Nat.lt_of_le_of_lt (Nat.div_le_self _ _) hw
    apply k8_; clear k8_
    refine Do.cond [0,5,6,7,8] rfl (fun h2 => ?_) (fun h2 => ?_) <;> simp [go_sem] at h2 ⊢
    · rw [if_pos h2] at hb
      refine Do.seqk fun _ k9_ => ?_
      refine Do.region [0,5,6,7,8] true ?_
      simp [go_sem]
      repeat (refine And.intro (by first | omega | (intros; omega) | grind) ?_)
      apply k9_; clear k9_
      refine Do.seqk fun _ k10_ => ?_
      refine Do.region [0,5,6,7,8] true ?_
      simp [go_sem]
      repeat (refine And.intro (by first | omega | (intros; omega) | grind) ?_)
      apply k10_; clear k10_
      refine Do.region [0,5,6,7,8] true ?_
      simp [go_sem]
      repeat (refine And.intro (by first | omega | (intros; omega) | grind) ?_)
      apply k7_; clear k7_
      refine Do.region [0,5,6,7,8] true ?_
      simp [go_sem]
      repeat (refine And.intro (by first | omega | (intros; omega) | grind) ?_)
      refine ⟨i + 1, St.le_of ?_ rfl, by omega, by simp; omega⟩
      simp [keep, hb, trl, ones, h2]
      omega
    · rw [if_neg (by omega)] at hb
      refine Do.skip ?_
      simp [go_sem]
      apply k7_; clear k7_
      refine Do.region [0,5,6,7,8] true ?_
      simp [go_sem]
      repeat (refine And.intro (by first | omega | (intros; omega) | grind) ?_)
      refine ⟨i + 1, St.le_of (by simp [keep, hb, trl, ones, h2]) rfl, by omega, by simp; omega⟩
  · refine Do.exit ?_
    simp [go_sem]
    apply k3_; clear k3_
    refine Do.seqk fun _ k11_ => ?_
    refine Do.region [2,3,4] true ?_
    simp [go_sem]
    apply k11_; clear k11_
    refine Do.ret ?_
    simp [endQ, rets, ret1, go_sem]
    repeat (refine And.intro (by first | omega | (intros; omega) | grind) ?_)
    have e : i = 64 := by omega
    subst e
    rw [Nat.mod_eq_of_lt (show w < 2 ^ 64 from hw)]
    exact TLe.refl _
theorem bl_top {n k : Nat} (h : n < 18446744073709551616 ^ (k + 1)) (h0 : n / 18446744073709551616 ^ k % 18446744073709551616 ≠ 0) : bl n = 64 * k + bl (n / 18446744073709551616 ^ k % 18446744073709551616) := by
  have h1 : n / 18446744073709551616 ^ k < 18446744073709551616 := by rw [Nat.div_lt_iff_lt_mul (Nat.pow_pos (by decide))]; rw [Nat.pow_succ, Nat.mul_comm] at h; exact h
  rw [Nat.mod_eq_of_lt h1] at h0 ⊢
  rw [B64_pow] at h0 h1 ⊢
  have := bl_add (lo := n % 2 ^ (64 * k)) (hi := n / 2 ^ (64 * k)) (m := 64 * k) (Nat.mod_lt _ (Nat.pow_pos (by decide))) (Nat.pos_of_ne_zero h0)
  rwa [Nat.mod_add_div] at this
theorem lt_down {n k : Nat} (h : n < 18446744073709551616 ^ (k + 1)) (h0 : n / 18446744073709551616 ^ k % 18446744073709551616 = 0) : n < 18446744073709551616 ^ k := by
  have h1 : n / 18446744073709551616 ^ k < 18446744073709551616 := by rw [Nat.div_lt_iff_lt_mul (Nat.pow_pos (by decide))]; rw [Nat.pow_succ, Nat.mul_comm] at h; exact h
  rw [Nat.mod_eq_of_lt h1, Nat.div_eq_zero_iff] at h0
  rcases h0 with h0 | h0
  · have := Nat.pow_pos (n := k) (show 0 < 18446744073709551616 by decide); omega
  · exact h0
theorem RLen_does {x : List Nat} (hx : x.length ≤ 1073741824) (hw : Ws x) : Does Tryd.prog G 40 [Wd x] (.int .i64 (bl (val x))) := by
  refine Does.of (nt := 33) Tryd.func40 rfl rfl rfl (by simp) ?_
  simp only [argTm, PV.ext, Ce.ext]
  refine Do.seqk fun _ k1_ => ?_
  refine Do.region [0] true ?_
  simp [go_sem]
  apply k1_; clear k1_
  refine Do.seqk fun _ k2_ => ?_
  refine Do.seqk fun _ k3_ => ?_
  refine Do.region [0,3] true ?_
  simp [go_sem]
  repeat (refine And.intro (by first | omega | (intros; omega) | grind) ?_)
  apply k3_; clear k3_
  refine Do.block ?_
  refine Do.loopF [0,3] (fun (i : Nat) => [(3, .int .i64 ((i : Int) - 1))]) (fun (i : Nat) => []) (fun (i : Nat) => i ≤ x.length ∧ val x < 18446744073709551616 ^ i) (fun (i : Nat) => i) (x.length) (fun _ => by first | (simp [go_sem, mixS]; done) | (simp [go_sem, mixS]; rfl)) (St.le_of (by first | rfl | simp [keep]) (by first | rfl | simp [keep])) (⟨Nat.le_refl _, val_lt hw⟩) ?_
  rintro i ⟨hi, hv⟩
  refine Do.seqk fun _ k4_ => ?_
  refine Do.seqk fun _ k5_ => ?_
  refine Do.region [0,3,11] true ?_
  simp [go_sem]
  apply k5_; clear k5_
  refine Do.cond [0,3] rfl (fun h => ?_) (fun h => ?_) <;> simp [go_sem] at h ⊢
  · obtain ⟨k, rfl⟩ : ∃ k, i = k + 1 := ⟨i - 1, by omega⟩
    have hg := ws_get hw (i := k) (by omega)
    obtain ⟨w, hwd⟩ : ∃ w, val x / 18446744073709551616 ^ k % 18446744073709551616 = w := ⟨_, rfl⟩
    have hlt : w < 18446744073709551616 := hwd ▸ Nat.mod_lt _ (by decide)
    rw [hwd] at hg
    have hbl := bl_word hlt
    refine Do.skip ?_
    simp [go_sem]
    apply k4_; clear k4_
    refine Do.seqk fun _ k6_ => ?_
    refine Do.block ?_
    refine Do.seqk fun _ k7_ => ?_
    refine Do.region [0,3,18] true ?_
    simp [go_sem, hg, show (((k + 1 : Nat) : Int) - 1).toNat = k by omega]
    repeat (refine And.intro (by first | omega | (intros; omega) | grind) ?_)
    apply k7_; clear k7_
    refine Do.cond [0,3] rfl (fun h2 => ?_) (fun h2 => ?_) <;> simp [go_sem, hg, show (((k + 1 : Nat) : Int) - 1).toNat = k by omega] at h2 ⊢
    · refine Do.seqk fun _ k8_ => ?_
      refine Do.region [3,4] true ?_
      simp [go_sem, hg, show (((k + 1 : Nat) : Int) - 1).toNat = k by omega]
      repeat (refine And.intro (by first | omega | (intros; omega) | grind) ?_)
      refine DoL.call true 505 rfl rfl rfl rfl (by first | exact trivial | omega | (simp; done) | (simp; omega)) (Count_does hlt) rfl (by first | exact .inl rfl | exact .inr rfl) rfl ?_
      simp [go_sem, hg, show (((k + 1 : Nat) : Int) - 1).toNat = k by omega]
      apply k8_; clear k8_
      refine Do.seqk fun _ k9_ => ?_
      refine Do.region [2] true ?_
      simp [go_sem, hg, show (((k + 1 : Nat) : Int) - 1).toNat = k by omega]
      repeat (refine And.intro (by first | omega | (intros; omega) | grind) ?_)
      apply k9_; clear k9_
      refine Do.ret ?_
      simp [endQ, rets, ret1, go_sem, hg, show (((k + 1 : Nat) : Int) - 1).toNat = k by omega]
      repeat (refine And.intro (by first | omega | (intros; omega) | grind) ?_)
      refine ret_i ?_
      have := bl_top hv (by rw [hwd]; exact h2)
      rw [hwd] at this
      omega
    · refine Do.skip ?_
      simp [go_sem]
      apply k6_; clear k6_
      refine Do.region [0,3] true ?_
      simp [go_sem, hg, show (((k + 1 : Nat) : Int) - 1).toNat = k by omega]
      repeat (refine And.intro (by first | omega | (intros; omega) | grind) ?_)
      refine ⟨k, St.le_of (by first | rfl | simp [keep]) (by first | rfl | simp [keep]), ⟨by omega, lt_down hv (by rw [hwd]; exact h2)⟩, by first | (simp; done) | (simp; omega)⟩
  · refine Do.exit ?_
    simp [go_sem]
    apply k2_; clear k2_
    refine Do.seqk fun _ k10_ => ?_
    refine Do.region [2] true ?_
    simp [go_sem]
    apply k10_; clear k10_
    refine Do.ret ?_
    simp [endQ, rets, ret1, go_sem]
    repeat (refine And.intro (by first | omega | (intros; omega) | grind) ?_)
    refine ret_i ?_
    have e : i = 0 := by omega
    subst e
    have : val x = 0 := by simpa using hv
    rw [this]; rfl
theorem IsZero_does {x : List Nat} (hx : x.length ≤ 1073741824) (hw : Ws x) : Does Tryd.prog G 38 [Wd x] (.v (.c (.b (decide (val x = 0))))) := by
  refine Does.of (nt := 6) Tryd.func38 rfl rfl rfl (by simp) ?_
  simp only [argTm, PV.ext, Ce.ext]
  refine Do.seqk fun _ k1_ => ?_
  refine Do.region [0] true ?_
  simp [go_sem]
  apply k1_; clear k1_
  refine Do.seqk fun _ k2_ => ?_
  refine Do.region [2] true ?_
  simp [go_sem]
  refine DoL.call true 102 rfl rfl rfl rfl (by first | exact trivial | omega | (simp; done) | (simp; omega)) (RLen_does hx hw) rfl (by first | exact .inl rfl | exact .inr rfl) rfl ?_
  simp [go_sem]
  apply k2_; clear k2_
  refine Do.ret ?_
  simp [endQ, rets, ret1, go_sem]
  repeat (refine And.intro (by first | omega | (intros; omega) | grind) ?_)
  refine ret_b ?_
  by_cases h : val x = 0
  · simp [h, bl_zero]
  · have := bl_pos (Nat.pos_of_ne_zero h)
    simp [h]; omega
end Go.Proofs.YtbhokdhkfodpfaaDoor
/- Bits and shifts of the reference. No condition. -/
namespace Go.Proofs.YtbhokdhkfodpfaaDoor
set_option linter.unusedVariables false
set_option linter.unusedSimpArgs false
variable {G : Gl}
set_option maxHeartbeats 2000000
theorem bit_eq {x : List Nat} (hw : Ws x) (i : Int) : (decide (0 ≤ i) && decide (i / 64 < ↑x.length) && x[(i / 64).toNat]?.getD 0 / 2 ^ (i % 64).toNat % 2 == 1) = (decide (0 ≤ i) && decide (val x / 2 ^ i.toNat % 2 = 1)) := by
  rw [Bool.eq_iff_iff, val_bit hw]
  simp
  constructor
  · rintro ⟨⟨a, b⟩, c⟩
    refine ⟨a, ?_⟩
    rwa [show i.toNat / 64 = (i / 64).toNat by omega, show i.toNat % 64 = (i % 64).toNat by omega]
  · rintro ⟨a, c⟩
    rw [show i.toNat / 64 = (i / 64).toNat by omega, show i.toNat % 64 = (i % 64).toNat by omega] at c
    refine ⟨⟨a, ?_⟩, c⟩
    apply Classical.byContradiction
    intro hn
    rw [List.getElem?_eq_none (by omega)] at c
    simp at c
theorem RBit_does {x : List Nat} (hx : x.length ≤ 1073741824) (hw : Ws x) {i : Int} (hi : I64 i) : Does Tryd.prog G 84 [Wd x, .c (.i .i64 i)] (.v (.c (.b (decide (0 ≤ i) && decide (val x / 2 ^ i.toNat % 2 = 1))))) := by
  have hb := hw.get (i / 64).toNat
  obtain ⟨h0, h1⟩ := hi
  refine Does.of (nt := 26) Tryd.func84 rfl rfl rfl (by simp) ?_
  simp only [argTm, PV.ext, Ce.ext]
  refine Do.seqk fun _ k1_ => ?_
  refine Do.region [0,1] true ?_
  simp [go_sem]
  apply k1_; clear k1_
  refine Do.seqk fun _ k2_ => ?_
  refine Do.region [4] true ?_
  simp [go_sem]
  repeat (refine And.intro (by first | omega | (intros; omega) | grind) ?_)
  apply k2_; clear k2_
  refine Do.ret ?_
  simp [endQ, rets, ret1, go_sem]
  repeat (refine And.intro (by first | omega | (intros; omega) | grind) ?_)
  rw [bit_eq hw]
  exact TLe.refl _
/-- How many bits are 1. -/
def pc (n : Nat) : Nat := if h : n = 0 then 0 else n % 2 + pc (n / 2)
termination_by n
decreasing_by omega
theorem pc_zero : pc 0 = 0 := by unfold pc; simp
theorem pc_step (n i : Nat) : pc (n / 2 ^ i) = n / 2 ^ i % 2 + pc (n / 2 ^ (i + 1)) := by
  rw [Nat.pow_succ, ← Nat.div_div_eq_div_mul]
  generalize n / 2 ^ i = m
  by_cases h : m = 0
  · subst h; simp [pc_zero]
  · conv => lhs; unfold pc
    rw [dif_neg h]
theorem tz_odd1 {m : Nat} (h : m % 2 = 1) : tz m = 0 := by unfold tz; rw [dif_neg (by omega), if_pos h]
theorem tz_even {m : Nat} (h : m % 2 = 0) (h0 : m ≠ 0) : tz m = 1 + tz (m / 2) := by conv => lhs; unfold tz
                                                                                     rw [dif_neg h0, if_neg (by omega)]
theorem pc_le (n : Nat) : pc n ≤ bl n := by
  induction n using Nat.strongRecOn with
  | _ n ih =>
    by_cases h : n = 0
    · subst h; simp [pc_zero]
    · unfold pc; rw [dif_neg h]
      have h1 := ih (n / 2) (by omega)
      have h2 : bl n = 1 + bl (n / 2) ∨ n = 1 := by
        by_cases h1 : n = 1
        · exact .inr h1
        · have := bl_add (lo := n % 2) (hi := n / 2) (m := 1) (by omega) (by omega)
          rw [show n % 2 + 2 ^ 1 * (n / 2) = n by omega] at this
          exact .inl this
      rcases h2 with h2 | h2
      · omega
      · subst h2; have : pc 0 = 0 := pc_zero; simp [this]; decide
/-- The lowest bit 1 of those from i on. -/
def tzAt (n i : Nat) : Nat := if n / 2 ^ i = 0 then 0 else i + tz (n / 2 ^ i)
theorem tzAt_zero (n : Nat) : tzAt n 0 = tz n := by
  unfold tzAt
  simp only [Nat.pow_zero, Nat.div_one]
  split
  · rename_i h; rw [h, tz_zero]
  · simp
theorem tzAt_top (n : Nat) : tzAt n (bl n) = 0 := by unfold tzAt; rw [Nat.div_eq_of_lt (bl_self n)]; rfl
theorem tzAt_one {n k : Nat} (h : n / 2 ^ k % 2 = 1) : tzAt n k = k := by unfold tzAt; rw [if_neg (by omega), tz_odd1 h]; rfl
theorem tzAt_none {n k : Nat} (h : n / 2 ^ k % 2 = 0) : tzAt n k = tzAt n (k + 1) := by
  unfold tzAt
  rw [Nat.pow_succ, ← Nat.div_div_eq_div_mul]
  generalize n / 2 ^ k = m at *
  by_cases h0 : m = 0
  · subst h0; rfl
  · rw [if_neg h0, if_neg (by omega), tz_even h h0]; omega
/-- How many bits from i on are 1. -/
def pcAt (n i : Nat) : Nat := pc (n / 2 ^ i)
theorem pcAt_step (n k : Nat) : pcAt n k = n / 2 ^ k % 2 + pcAt n (k + 1) := pc_step n k
theorem pcAt_le (n k : Nat) : pcAt n k ≤ bl n := Nat.le_trans (pc_le _) (bl_mono (Nat.div_le_self _ _))
theorem Bits_does {x : List Nat} (hx : x.length ≤ 1073741824) (hw : Ws x) : Does Tryd.prog G 67 [Wd x] (.t [.c (.i .i64 (tz (val x))), .c (.i .i64 (pc (val x)))]) := by
  have hbl := bl_le_len hw (Nat.le_refl (val x))
  refine Does.of (nt := 22) Tryd.func67 rfl rfl rfl (by simp) ?_
  simp only [argTm, PV.ext, Ce.ext]
  refine Do.seqk fun _ k1_ => ?_
  refine Do.region [0] true ?_
  simp [go_sem]
  apply k1_; clear k1_
  refine Do.seqk fun _ k2_ => ?_
  refine Do.region [0,4,5] true ?_
  simp [go_sem]
  apply k2_; clear k2_
  refine Do.seqk fun _ k3_ => ?_
  refine Do.seqk fun _ k4_ => ?_
  refine Do.region [0,4,5,6] true ?_
  simp [go_sem]
  refine DoL.call true 202 rfl rfl rfl rfl (by first | exact trivial | omega | (simp; done) | (simp; omega)) (RLen_does hx hw) rfl (by first | exact .inl rfl | exact .inr rfl) rfl ?_
  simp [go_sem]
  repeat (refine And.intro (by first | omega | (intros; omega) | grind) ?_)
  apply k4_; clear k4_
  refine Do.block ?_
  refine Do.loopF [0,4,5,6] (fun (i : Nat) => [(4, .int .i64 (tzAt (val x) i)), (5, .int .i64 (pcAt (val x) i)), (6, .int .i64 ((i : Int) - 1))]) (fun (i : Nat) => []) (fun (i : Nat) => i ≤ bl (val x)) (fun (i : Nat) => i) (bl (val x)) (fun _ => by first | (simp [go_sem, mixS]; done) | (simp [go_sem, mixS]; rfl)) (St.le_of (by simp [keep, tzAt_top, show pcAt (val x) (bl (val x)) = 0 by rw [pcAt, Nat.div_eq_of_lt (bl_self _), pc_zero]]) rfl) (Nat.le_refl _) ?_
  intro i hi
  refine Do.seqk fun _ k5_ => ?_
  refine Do.seqk fun _ k6_ => ?_
  refine Do.region [0,4,5,6,11] true ?_
  simp [go_sem]
  apply k6_; clear k6_
  refine Do.cond [0,4,5,6] rfl (fun h => ?_) (fun h => ?_) <;> simp [go_sem] at h ⊢
  · obtain ⟨k, rfl⟩ : ∃ k, i = k + 1 := ⟨i - 1, by omega⟩
    have hbit := @RBit_does G x hx hw (k : Int) (by constructor <;> omega)
    rw [Int.toNat_natCast, show decide (0 ≤ (k : Int)) = true by simp, Bool.true_and] at hbit
    have hp := pcAt_step (val x) k
    have hpl := pcAt_le (val x) (k + 1)
    have hpl2 := pcAt_le (val x) k
    refine Do.skip ?_
    simp [go_sem]
    apply k5_; clear k5_
    refine Do.seqk fun _ k7_ => ?_
    refine Do.block ?_
    refine Do.seqk fun _ k8_ => ?_
    refine Do.region [0,4,5,6,16] true ?_
    simp [go_sem]
    refine DoL.call true 503 rfl rfl rfl rfl (by first | exact trivial | omega | (simp; done) | (simp; omega)) (hbit) rfl (by first | exact .inl rfl | exact .inr rfl) rfl ?_
    simp [go_sem]
    apply k8_; clear k8_
    refine Do.cond [0,4,5,6] rfl (fun h2 => ?_) (fun h2 => ?_) <;> simp [go_sem] at h2 ⊢
    · rw [h2] at hp
      refine Do.seqk fun _ k9_ => ?_
      refine Do.region [0,4,5,6] true ?_
      simp [go_sem]
      apply k9_; clear k9_
      refine Do.region [0,4,5,6] true ?_
      simp [go_sem]
      repeat (refine And.intro (by first | omega | (intros; omega) | grind) ?_)
      apply k7_; clear k7_
      refine Do.region [0,4,5,6] true ?_
      simp [go_sem]
      repeat (refine And.intro (by first | omega | (intros; omega) | grind) ?_)
      refine ⟨k, St.le_of (by simp [keep, hp, tzAt_one h2]; omega) rfl, by omega, by simp⟩
    · rw [h2] at hp
      refine Do.skip ?_
      simp [go_sem]
      apply k7_; clear k7_
      refine Do.region [0,4,5,6] true ?_
      simp [go_sem]
      repeat (refine And.intro (by first | omega | (intros; omega) | grind) ?_)
      refine ⟨k, St.le_of (by simp [keep, hp, tzAt_none h2]) rfl, by omega, by simp⟩
  · refine Do.exit ?_
    simp [go_sem]
    apply k3_; clear k3_
    refine Do.seqk fun _ k10_ => ?_
    refine Do.region [2,3] true ?_
    simp [go_sem]
    apply k10_; clear k10_
    refine Do.ret ?_
    simp [endQ, rets, ret1, go_sem]
    repeat (refine And.intro (by first | omega | (intros; omega) | grind) ?_)
    have e : i = 0 := by omega
    subst e
    rw [tzAt_zero, pcAt, Nat.pow_zero, Nat.div_one]
    exact TLe.refl _
theorem rshr_word (m : Nat) {s : Nat} (hs : s < 64) : m / 18446744073709551616 % 2 ^ s * 2 ^ (64 - s) + m % 18446744073709551616 / 2 ^ s = m / 2 ^ s % 18446744073709551616 := by
  have hB : (18446744073709551616 : Nat) = 2 ^ s * 2 ^ (64 - s) := by rw [← Nat.pow_add, show s + (64 - s) = 64 by omega]
  have hB2 : (18446744073709551616 : Nat) = 2 ^ (64 - s) * 2 ^ s := by rw [hB, Nat.mul_comm]
  have e1 : m % 18446744073709551616 / 2 ^ s = m / 2 ^ s % 2 ^ (64 - s) := by rw [hB, Nat.mod_mul_right_div_self]
  have e2 : m / 2 ^ s % 18446744073709551616 = m / 2 ^ s % 2 ^ (64 - s) + 2 ^ (64 - s) * (m / 2 ^ s / 2 ^ (64 - s) % 2 ^ s) := by rw [hB2, Nat.mod_mul]
  rw [e1, e2, Nat.div_div_eq_div_mul, ← hB, Nat.mul_comm (2 ^ (64 - s)), Nat.add_comm]
theorem shl_word (w : Nat) {s : Nat} (hs : s < 64) : w * 2 ^ (64 - s) % 18446744073709551616 = w % 2 ^ s * 2 ^ (64 - s) := by
  have hB : (18446744073709551616 : Nat) = 2 ^ s * 2 ^ (64 - s) := by rw [← Nat.pow_add, show s + (64 - s) = 64 by omega]
  rw [hB, Nat.mul_mod_mul_right]
theorem set_low {L : List Nat} {i w : Nat} (h : L[i]? = some w) : (List.replicate (i + 1) 0 ++ L.drop (i + 1)).set i w = List.replicate i 0 ++ L.drop i := by
  have hi : i < L.length := (List.getElem?_eq_some_iff.1 h).1
  have hw : L[i] = w := (List.getElem?_eq_some_iff.1 h).2
  rw [List.replicate_succ', List.append_assoc, List.set_append_right _ _ (by simp), List.drop_eq_getElem_cons hi, hw]
  simp
theorem set_low2 {L : List Nat} {i w : Nat} (h : L[i]? = some w) : (List.replicate (i + 1) 0).set i w ++ L.drop (i + 1) = List.replicate i 0 ++ L.drop i := by
  rw [← set_low h, List.set_append_left _ _ (by simp)]
theorem right_step {n k s : Nat} (hs : s < 64) : n / 18446744073709551616 ^ (k + 1) % 2 ^ s * 2 ^ (64 - s) + n / 18446744073709551616 ^ k % 18446744073709551616 / 2 ^ s = n / 2 ^ s / 18446744073709551616 ^ k % 18446744073709551616 := by
  rw [Nat.pow_succ, ← Nat.div_div_eq_div_mul, rshr_word _ hs, Nat.div_div_eq_div_mul, Nat.div_div_eq_div_mul, Nat.mul_comm]
theorem right_fall {n k s : Nat} (hs : s < 64) : n / 18446744073709551616 ^ k % 18446744073709551616 * 2 ^ (64 - s) % 18446744073709551616 = n / 18446744073709551616 ^ k % 2 ^ s * 2 ^ (64 - s) := by
  rw [shl_word _ hs, Nat.mod_mod_of_dvd]
  rw [B64]; exact Nat.pow_dvd_pow 2 (by omega)
theorem Right1_does {x : List Nat} {s : Nat} (hx : x.length ≤ 1073741824) (hw : Ws x) (hs : s < 64) : Does Tryd.prog G 85 [Wd x, .c (.i .i64 s)] (.t [Wn (wds (val x / 2 ^ s) x.length), .c (.n (val x % 2 ^ s * 2 ^ (64 - s)))]) := by
  refine Does.of (nt := 41) Tryd.func85 rfl rfl rfl (by simp) ?_
  simp only [argTm, PV.ext, Ce.ext]
  refine Do.seqk fun _ k1_ => ?_
  refine Do.region [0,1] true ?_
  simp [go_sem]
  apply k1_; clear k1_
  refine Do.seqk fun _ k2_ => ?_
  refine Do.region [0,1,6] true ?_
  simp [go_sem]
  repeat (refine And.intro (by first | omega | (intros; omega) | grind) ?_)
  apply k2_; clear k2_
  refine Do.seqk fun _ k3_ => ?_
  refine Do.region [0,1,6,7] true ?_
  simp [go_sem]
  apply k3_; clear k3_
  refine Do.seqk fun _ k4_ => ?_
  refine Do.seqk fun _ k5_ => ?_
  refine Do.region [0,1,6,7,8] true ?_
  simp [go_sem]
  repeat (refine And.intro (by first | omega | (intros; omega) | grind) ?_)
  apply k5_; clear k5_
  refine Do.block ?_
  refine Do.loopF [0,1,6,7,8] (fun (i : Nat) => [(7, .nat (val x / 18446744073709551616 ^ i % 2 ^ s * 2 ^ (64 - s))), (8, .int .i64 ((i : Int) - 1))]) (fun (i : Nat) => [(102, .wr (List.replicate i 0 ++ (wds (val x / 2 ^ s) x.length).drop i))]) (fun (i : Nat) => i ≤ x.length) (fun (i : Nat) => i) (x.length) (fun _ => by first | (simp [go_sem, mixS]; done) | (simp [go_sem, mixS]; rfl)) (St.le_of (by simp [keep, Nat.div_eq_of_lt (val_lt hw)]) (by simp [keep, List.drop_of_length_le, wds_len])) (Nat.le_refl _) ?_
  intro i hi
  refine Do.seqk fun _ k6_ => ?_
  refine Do.seqk fun _ k7_ => ?_
  refine Do.region [0,1,6,7,8,16] true ?_
  simp [go_sem]
  apply k7_; clear k7_
  refine Do.cond [0,1,6,7,8] rfl (fun h => ?_) (fun h => ?_) <;> simp [go_sem] at h ⊢
  · obtain ⟨k, rfl⟩ : ∃ k, i = k + 1 := ⟨i - 1, by omega⟩
    have hg := ws_get hw (i := k) (by omega)
    have hL := wds_get (n := val x / 2 ^ s) (k := x.length) (i := k) (by omega)
    have hst := right_step (n := val x) (k := k) hs
    have hfa := right_fall (n := val x) (k := k) hs
    obtain ⟨w, hwd⟩ : ∃ w, val x / 18446744073709551616 ^ k % 18446744073709551616 = w := ⟨_, rfl⟩
    have hlt : w < 18446744073709551616 := hwd ▸ Nat.mod_lt _ (by decide)
    have hvlt := Nat.mod_lt (val x / 2 ^ s / 18446744073709551616 ^ k) (show 0 < 18446744073709551616 by decide)
    rw [hwd] at hg hst hfa
    rw [← hst] at hL hvlt
    have hset := set_low2 hL
    refine Do.skip ?_
    simp [go_sem]
    apply k6_; clear k6_
    refine Do.seqk fun _ k8_ => ?_
    refine Do.block ?_
    refine Do.seqk fun _ k9_ => ?_
    refine Do.region [0,1,6,8] true ?_
    simp [go_sem, hg, M64]
    repeat (refine And.intro (by first | omega | (intros; omega) | grind) ?_)
    apply k9_; clear k9_
    refine Do.seqk fun _ k10_ => ?_
    refine Do.region [0,1,6,7,8] true ?_
    simp [go_sem, hg, M64]
    apply k10_; clear k10_
    refine Do.seqk fun _ k11_ => ?_
    refine Do.region [0,1,6,7,8,31] true ?_
    simp [go_sem, hg, M64]
    apply k11_; clear k11_
    refine Do.cond [0,1,6,7,8] rfl (fun h2 => ?_) (fun h2 => ?_) <;> simp [go_sem, hg, M64] at h2 ⊢
    · refine Do.region [0,1,6,7,8] true ?_
      simp [go_sem, hg, M64]
      repeat (refine And.intro (by first | omega | (intros; omega) | grind) ?_)
      rw [hfa]
      apply k8_; clear k8_
      refine Do.region [0,1,6,7,8] true ?_
      simp [go_sem, hg, M64]
      repeat (refine And.intro (by first | omega | (intros; omega) | grind) ?_)
      refine ⟨k, St.le_of rfl (by simp [keep, hset]), by omega, by simp⟩
    · refine Do.skip ?_
      simp [go_sem]
      apply k8_; clear k8_
      refine Do.region [0,1,6,7,8] true ?_
      simp [go_sem, hg, M64]
      repeat (refine And.intro (by first | omega | (intros; omega) | grind) ?_)
      refine ⟨k, St.le_of (by simp [keep, h2, Nat.mod_one]) (by simp [keep, hset]), by omega, by simp⟩
  · refine Do.exit ?_
    simp [go_sem]
    apply k4_; clear k4_
    refine Do.seqk fun _ k12_ => ?_
    refine Do.region [4,5] true ?_
    simp [go_sem]
    apply k12_; clear k12_
    refine Do.ret ?_
    simp [endQ, rets, ret1, go_sem]
    repeat (refine And.intro (by first | omega | (intros; omega) | grind) ?_)
    have e : i = 0 := by omega
    subst e
    refine TLe.t (.cons ?_ (.cons ?_ .nil))
    · simp; exact PLe.refl _
    · simp; exact PLe.refl _
theorem val_drop_div {x : List Nat} (hw : Ws x) (q : Nat) : val (x.drop q) = val x / 18446744073709551616 ^ q := by
  by_cases h : q ≤ x.length
  · have h1 := val_take x q
    have h2 := val_take_lt hw h
    rw [List.length_take, Nat.min_eq_left h] at h1
    rw [← B64_pow] at h2
    rw [h1, Nat.add_comm, Nat.mul_add_div (Nat.pow_pos (by decide)), Nat.div_eq_of_lt h2, Nat.add_zero]
  · rw [List.drop_eq_nil_of_le (by omega), Nat.div_eq_of_lt (Nat.lt_of_lt_of_le (val_lt hw) (Nat.pow_le_pow_right (by decide) (by omega)))]
    rfl
theorem RRight_does {x : List Nat} {s : Nat} (hx : x.length ≤ 1073741824) (hw : Ws x) (hs : s < 9223372036854775808) : Does Tryd.prog G 68 [Wd x, .c (.i .i64 s)] (.v (Wn (nat (val x / 2 ^ s)))) := by
  have hdiv : val x / 2 ^ s = val x / 18446744073709551616 ^ (s / 64) / 2 ^ (s % 64) := by
    rw [B64_pow, Nat.div_div_eq_div_mul, ← Nat.pow_add, show 64 * (s / 64) + s % 64 = s by omega]
  have h1 := @Right1_does G (x.drop (s / 64)) (s % 64) (by simp; omega) (hw.drop _) (by omega)
  rw [val_drop_div hw, ← hdiv, show ((s % 64 : Nat) : Int) = (s : Int) % 64 by omega] at h1
  have h2 := @RTrim_does G (wds (val x / 2 ^ s) (x.drop (s / 64)).length) (by rw [wds_len]; simp; omega) (wds_ws _ _)
  have hlt : val x / 2 ^ s < 18446744073709551616 ^ (x.drop (s / 64)).length := by
    rw [hdiv, ← val_drop_div hw]
    exact Nat.lt_of_le_of_lt (Nat.div_le_self _ _) (val_lt (hw.drop _))
  rw [val_wds, Nat.mod_eq_of_lt hlt] at h2
  have htk : List.take (x.length - s / 64) (x.drop (s / 64)) = x.drop (s / 64) := List.take_of_length_le (by simp)
  have htn : ((s : Int) / 64).toNat = s / 64 := by omega
  generalize wds (val x / 2 ^ s) (x.drop (s / 64)).length = y at *
  generalize val (x.drop (s / 64)) % 2 ^ (s % 64) * 2 ^ (64 - s % 64) = z at *
  refine Does.of (nt := 24) Tryd.func68 rfl rfl rfl (by simp) ?_
  simp only [argTm, PV.ext, Ce.ext]
  refine Do.seqk fun _ k1_ => ?_
  refine Do.region [0,1] true ?_
  simp [go_sem]
  apply k1_; clear k1_
  refine Do.seqk fun _ k2_ => ?_
  refine Do.seqk fun _ k3_ => ?_
  refine Do.region [0,1,11] true ?_
  simp [go_sem]
  repeat (refine And.intro (by first | omega | (intros; omega) | grind) ?_)
  apply k3_; clear k3_
  refine Do.cond [0,1] rfl (fun h => ?_) (fun h => ?_) <;> simp [go_sem] at h ⊢
  · refine Do.seqk fun _ k4_ => ?_
    refine Do.region [4] true ?_
    simp [go_sem]
    apply k4_; clear k4_
    refine Do.ret ?_
    simp [endQ, rets, ret1, go_sem]
    repeat (refine And.intro (by first | omega | (intros; omega) | grind) ?_)
    rw [hdiv, Nat.div_eq_of_lt (Nat.lt_of_lt_of_le (val_lt hw) (Nat.pow_le_pow_right (by decide) (show x.length ≤ s / 64 by omega))), Nat.zero_div, nat_zero]
    exact TLe.v (PLe.z true)
  · refine Do.skip ?_
    simp [go_sem]
    apply k2_; clear k2_
    refine Do.seqk fun _ k5_ => ?_
    refine Do.region [5] true ?_
    simp [go_sem, htk, htn]
    repeat (refine And.intro (by first | omega | (intros; omega) | grind) ?_)
    refine DoL.call true 307 rfl rfl rfl rfl (by first | exact trivial | omega | (simp; done) | (simp; omega)) (h1) rfl (by first | exact .inl rfl | exact .inr rfl) rfl ?_
    simp [go_sem, htk, htn]
    apply k5_; clear k5_
    refine Do.seqk fun _ k6_ => ?_
    refine Do.region [4] true ?_
    simp [go_sem, htk, htn]
    refine DoL.call true 402 rfl rfl rfl rfl (by first | exact trivial | omega | (simp; done) | (simp; omega)) (h2) rfl (by first | exact .inl rfl | exact .inr rfl) rfl ?_
    simp [go_sem, htk, htn]
    apply k6_; clear k6_
    refine Do.ret ?_
    simp [endQ, rets, ret1, go_sem, htk, htn]
    repeat (refine And.intro (by first | omega | (intros; omega) | grind) ?_)
    exact TLe.refl _
end Go.Proofs.YtbhokdhkfodpfaaDoor
/- The floats of the reference. No condition. -/
namespace Go.Proofs.YtbhokdhkfodpfaaDoor
set_option linter.unusedVariables false
set_option linter.unusedSimpArgs false
variable {G : Gl}
set_option maxHeartbeats 2000000
abbrev Md (e : Int) : Prop := -4611686018427387904 ≤ e ∧ e ≤ 4611686018427387904
theorem odd_does {k e : Int} {n : Bool} {m : List Nat} (hm : m.length ≤ 1073741824) (wm : Ws m) (he : Md e) : Does Tryd.prog G 39 [Fl k n e m] (.t [Wn (nat (val m / 2 ^ tz (val m))), .c (.i .i64 (e + tz (val m)))]) := by
  have ht : tz (val m) < 64 * m.length + 1 := by
    by_cases h : val m = 0
    · rw [h, tz_zero]; omega
    · have := tz_bound wm h; omega
  refine Does.of (nt := 20) Tryd.func39 rfl rfl rfl (by simp) ?_
  simp only [argTm, PV.ext, Ce.ext]
  refine Do.seqk fun _ k1_ => ?_
  refine Do.region [1] true ?_
  simp [go_sem]
  apply k1_; clear k1_
  refine Do.seqk fun _ k2_ => ?_
  refine Do.region [1,4] true ?_
  simp [go_sem]
  repeat (refine And.intro (by first | omega | (intros; omega) | grind) ?_)
  refine DoL.call true 103 rfl rfl rfl rfl (by first | exact trivial | omega | (simp; done) | (simp; omega)) (Bits_does hm wm) rfl (by first | exact .inl rfl | exact .inr rfl) rfl ?_
  simp [go_sem]
  apply k2_; clear k2_
  refine Do.seqk fun _ k3_ => ?_
  refine Do.draw [2,3] true (by kernel_rfl) ?_
  simp [go_sem]
  repeat (refine And.intro (by first | omega | (intros; omega) | kernel_rfl | grind) ?_)
  refine DoLD.call true 204 rfl rfl rfl rfl (by first | exact trivial | omega | (simp; done) | (simp; omega)) (RRight_does hm wm (s := tz (val m)) (by omega)) rfl (by first | exact .inl rfl | exact .inr rfl) rfl ?_
  simp [go_sem]
  repeat (refine And.intro (by first | omega | (intros; omega) | kernel_rfl | grind) ?_)
  try (refine And.intro (by kernel_rfl) ?_)
  apply k3_; clear k3_
  refine Do.ret ?_
  simp [endQ, rets, ret1, go_sem]
  repeat (refine And.intro (by first | omega | (intros; omega) | grind) ?_)
  exact TLe.refl _
theorem Good_does {k e : Int} {n : Bool} {m : List Nat} (hm : m.length ≤ 1073741824) (wm : Ws m) : Does Tryd.prog G 23 [Fl k n e m] (.v (.c (.b (canon ⟨k, n, e, val m⟩).2))) := by
  have hz := @IsZero_does G m hm wm
  rcases (show k = 0 ∨ k = 2 ∨ k = 3 ∨ k = 1 ∨ (k ≠ 0 ∧ k ≠ 2 ∧ k ≠ 3 ∧ k ≠ 1) by omega) with hk | hk | hk | hk | hk
  · subst hk
    refine Does.of (nt := 55) Tryd.func23 rfl rfl rfl (by simp) ?_
    simp only [argTm, PV.ext, Ce.ext]
    refine Do.seqk fun _ k1_ => ?_
    refine Do.region [1] true ?_
    simp [go_sem]
    apply k1_; clear k1_
    refine Do.seqk fun _ k2_ => ?_
    refine Do.seqk fun _ k3_ => ?_
    refine Do.region [1,6] true ?_
    simp [go_sem]
    repeat (refine And.intro (by first | omega | (intros; omega) | grind) ?_)
    apply k3_; clear k3_
    refine Do.block ?_
    refine Do.seqk fun _ k4_ => ?_
    refine Do.seqk fun _ k5_ => ?_
    refine Do.region [1,6,7] true ?_
    simp [go_sem]
    apply k5_; clear k5_
    refine Do.cond [1,6,7] rfl (fun h => ?_) (fun h => ?_) <;> simp [go_sem] at h ⊢
    refine Do.skip ?_
    simp [go_sem]
    apply k4_; clear k4_
    refine Do.cond [1,6] rfl (fun h => ?_) (fun h => ?_) <;> simp [go_sem] at h ⊢
    refine Do.seqk fun _ k6_ => ?_
    refine Do.region [2] true ?_
    simp [go_sem]
    repeat (refine And.intro (by first | omega | (intros; omega) | grind) ?_)
    refine DoL.callg true 407 rfl rfl rfl rfl rfl (by simp [go_sem] <;> omega) (fun _ => hz) rfl (by first | exact .inl rfl | exact .inr rfl) rfl ?_
    simp [go_sem]
    apply k6_; clear k6_
    refine Do.ret ?_
    simp [endQ, rets, ret1, go_sem]
    repeat (refine And.intro (by first | omega | (intros; omega) | grind) ?_)
    exact ret_b (by simp [canon])
  · subst hk
    refine Does.of (nt := 55) Tryd.func23 rfl rfl rfl (by simp) ?_
    simp only [argTm, PV.ext, Ce.ext]
    refine Do.seqk fun _ k1_ => ?_
    refine Do.region [1] true ?_
    simp [go_sem]
    apply k1_; clear k1_
    refine Do.seqk fun _ k2_ => ?_
    refine Do.seqk fun _ k3_ => ?_
    refine Do.region [1,6] true ?_
    simp [go_sem]
    repeat (refine And.intro (by first | omega | (intros; omega) | grind) ?_)
    apply k3_; clear k3_
    refine Do.block ?_
    refine Do.seqk fun _ k4_ => ?_
    refine Do.seqk fun _ k5_ => ?_
    refine Do.region [1,6,7] true ?_
    simp [go_sem]
    apply k5_; clear k5_
    refine Do.cond [1,6,7] rfl (fun h => ?_) (fun h => ?_) <;> simp [go_sem] at h ⊢
    refine Do.region [1,6,7] true ?_
    simp [go_sem]
    apply k4_; clear k4_
    refine Do.cond [1,6] rfl (fun h => ?_) (fun h => ?_) <;> simp [go_sem] at h ⊢
    refine Do.seqk fun _ k6_ => ?_
    refine Do.region [2] true ?_
    simp [go_sem]
    repeat (refine And.intro (by first | omega | (intros; omega) | grind) ?_)
    refine DoL.callg true 407 rfl rfl rfl rfl rfl (by simp [go_sem] <;> omega) (fun _ => hz) rfl (by first | exact .inl rfl | exact .inr rfl) rfl ?_
    simp [go_sem]
    apply k6_; clear k6_
    refine Do.ret ?_
    simp [endQ, rets, ret1, go_sem]
    repeat (refine And.intro (by first | omega | (intros; omega) | grind) ?_)
    exact ret_b (by simp [canon])
  · subst hk
    refine Does.of (nt := 55) Tryd.func23 rfl rfl rfl (by simp) ?_
    simp only [argTm, PV.ext, Ce.ext]
    refine Do.seqk fun _ k1_ => ?_
    refine Do.region [1] true ?_
    simp [go_sem]
    apply k1_; clear k1_
    refine Do.seqk fun _ k2_ => ?_
    refine Do.seqk fun _ k3_ => ?_
    refine Do.region [1,6] true ?_
    simp [go_sem]
    repeat (refine And.intro (by first | omega | (intros; omega) | grind) ?_)
    apply k3_; clear k3_
    refine Do.block ?_
    refine Do.seqk fun _ k4_ => ?_
    refine Do.seqk fun _ k5_ => ?_
    refine Do.region [1,6,7] true ?_
    simp [go_sem]
    apply k5_; clear k5_
    refine Do.cond [1,6,7] rfl (fun h => ?_) (fun h => ?_) <;> simp [go_sem] at h ⊢
    refine Do.region [1,6,7] true ?_
    simp [go_sem]
    apply k4_; clear k4_
    refine Do.cond [1,6] rfl (fun h => ?_) (fun h => ?_) <;> simp [go_sem] at h ⊢
    refine Do.seqk fun _ k6_ => ?_
    refine Do.region [1,6,18] true ?_
    simp [go_sem]
    apply k6_; clear k6_
    refine Do.cond [1,6] rfl (fun h => ?_) (fun h => ?_) <;> simp [go_sem] at h ⊢
    refine Do.seqk fun _ k7_ => ?_
    refine Do.region [2] true ?_
    simp [go_sem]
    repeat (refine And.intro (by first | omega | (intros; omega) | grind) ?_)
    refine DoL.callg true 612 rfl rfl rfl rfl rfl (by simp [go_sem] <;> omega) (fun _ => hz) rfl (by first | exact .inl rfl | exact .inr rfl) rfl ?_
    simp [go_sem]
    apply k7_; clear k7_
    refine Do.ret ?_
    simp [endQ, rets, ret1, go_sem]
    repeat (refine And.intro (by first | omega | (intros; omega) | grind) ?_)
    exact ret_b (by simp [canon, Bool.and_assoc])
  · subst hk
    refine Does.of (nt := 55) Tryd.func23 rfl rfl rfl (by simp) ?_
    simp only [argTm, PV.ext, Ce.ext]
    refine Do.seqk fun _ k1_ => ?_
    refine Do.region [1] true ?_
    simp [go_sem]
    apply k1_; clear k1_
    refine Do.seqk fun _ k2_ => ?_
    refine Do.seqk fun _ k3_ => ?_
    refine Do.region [1,6] true ?_
    simp [go_sem]
    repeat (refine And.intro (by first | omega | (intros; omega) | grind) ?_)
    apply k3_; clear k3_
    refine Do.block ?_
    refine Do.seqk fun _ k4_ => ?_
    refine Do.seqk fun _ k5_ => ?_
    refine Do.region [1,6,7] true ?_
    simp [go_sem]
    apply k5_; clear k5_
    refine Do.cond [1,6,7] rfl (fun h => ?_) (fun h => ?_) <;> simp [go_sem] at h ⊢
    refine Do.region [1,6,7] true ?_
    simp [go_sem]
    apply k4_; clear k4_
    refine Do.cond [1,6] rfl (fun h => ?_) (fun h => ?_) <;> simp [go_sem] at h ⊢
    refine Do.seqk fun _ k6_ => ?_
    refine Do.region [1,6,18] true ?_
    simp [go_sem]
    apply k6_; clear k6_
    refine Do.cond [1,6] rfl (fun h => ?_) (fun h => ?_) <;> simp [go_sem] at h ⊢
    refine Do.seqk fun _ k7_ => ?_
    refine Do.region [1,33] true ?_
    simp [go_sem]
    apply k7_; clear k7_
    refine Do.cond [1] rfl (fun h => ?_) (fun h => ?_) <;> simp [go_sem] at h ⊢
    refine Do.seqk fun _ k8_ => ?_
    refine Do.seqk fun _ k9_ => ?_
    refine Do.region [1,47] true ?_
    simp [go_sem]
    repeat (refine And.intro (by first | omega | (intros; omega) | grind) ?_)
    refine DoL.call true 803 rfl rfl rfl rfl (by first | exact trivial | omega | (simp; done) | (simp; omega)) (hz) rfl (by first | exact .inl rfl | exact .inr rfl) rfl ?_
    simp [go_sem]
    repeat (refine And.intro (by first | omega | (intros; omega) | grind) ?_)
    apply k9_; clear k9_
    refine Do.cond [1] rfl (fun h => ?_) (fun h => ?_) <;> simp [go_sem] at h ⊢
    · refine Do.seqk fun _ k10_ => ?_
      refine Do.region [2] true ?_
      simp [go_sem]
      apply k10_; clear k10_
      refine Do.ret ?_
      simp [endQ, rets, ret1, go_sem]
      repeat (refine And.intro (by first | omega | (intros; omega) | grind) ?_)
      refine ret_b ?_
      unfold canon
      rw [if_neg (by simp), if_neg (by simp), if_pos rfl, if_pos (by simp; omega)]
    · refine Do.skip ?_
      simp [go_sem]
      apply k8_; clear k8_
      refine Do.seqk fun _ k11_ => ?_
      refine Do.region [4] true ?_
      simp [go_sem]
      repeat (refine And.intro (by first | omega | (intros; omega) | grind) ?_)
      refine DoL.call true 1002 rfl rfl rfl rfl (by first | exact trivial | omega | (simp; done) | (simp; omega)) (odd_does hm wm ⟨by omega, by omega⟩) rfl (by first | exact .inl rfl | exact .inr rfl) rfl ?_
      simp [go_sem]
      apply k11_; clear k11_
      refine Do.seqk fun _ k12_ => ?_
      refine Do.region [2] true ?_
      simp [go_sem]
      apply k12_; clear k12_
      refine Do.ret ?_
      simp [endQ, rets, ret1, go_sem]
      repeat (refine And.intro (by first | omega | (intros; omega) | grind) ?_)
      refine ret_b ?_
      unfold canon
      rw [if_neg (by simp), if_neg (by simp), if_pos rfl, if_neg (by simp; omega)]
  ·
    refine Does.of (nt := 55) Tryd.func23 rfl rfl rfl (by simp) ?_
    simp only [argTm, PV.ext, Ce.ext]
    refine Do.seqk fun _ k1_ => ?_
    refine Do.region [1] true ?_
    simp [go_sem]
    apply k1_; clear k1_
    refine Do.seqk fun _ k2_ => ?_
    refine Do.seqk fun _ k3_ => ?_
    refine Do.region [1,6] true ?_
    simp [go_sem]
    repeat (refine And.intro (by first | omega | (intros; omega) | grind) ?_)
    apply k3_; clear k3_
    refine Do.block ?_
    refine Do.seqk fun _ k4_ => ?_
    refine Do.seqk fun _ k5_ => ?_
    refine Do.region [1,6,7] true ?_
    simp [go_sem]
    apply k5_; clear k5_
    refine Do.cond [1,6,7] rfl (fun h => ?_) (fun h => ?_) <;> simp [go_sem] at h ⊢
    · exact absurd h hk.1
    · refine Do.region [1,6,7] true ?_
      simp [go_sem]
      apply k4_; clear k4_
      refine Do.cond [1,6] rfl (fun h => ?_) (fun h => ?_) <;> simp [go_sem] at h ⊢
      · exact absurd h hk.2.1
      · refine Do.seqk fun _ k6_ => ?_
        refine Do.region [1,6,18] true ?_
        simp [go_sem]
        apply k6_; clear k6_
        refine Do.cond [1,6] rfl (fun h => ?_) (fun h => ?_) <;> simp [go_sem] at h ⊢
        · exact absurd h hk.2.2.1
        · refine Do.seqk fun _ k7_ => ?_
          refine Do.region [1,33] true ?_
          simp [go_sem]
          apply k7_; clear k7_
          refine Do.cond [1] rfl (fun h => ?_) (fun h => ?_) <;> simp [go_sem] at h ⊢
          · exact absurd h hk.2.2.2
          · refine Do.skip ?_
            simp [go_sem]
            apply k2_; clear k2_
            refine Do.seqk fun _ k8_ => ?_
            refine Do.region [2] true ?_
            simp [go_sem]
            apply k8_; clear k8_
            refine Do.ret ?_
            simp [endQ, rets, ret1, go_sem]
            repeat (refine And.intro (by first | omega | (intros; omega) | grind) ?_)
            exact ret_b (by simp [canon, hk])
/-- The float that the reference takes as canonical. -/
def rcanon (x : Flt) : Flt := if x.k = 1 then ⟨1, x.n, x.e + tz x.v, x.v / 2 ^ tz x.v⟩ else ⟨x.k, x.n, 0, 0⟩
theorem rcanon_good {x : Flt} (h : (canon x).2 = true) : rcanon x = (canon x).1 := by
  unfold rcanon
  unfold canon at h ⊢
  split
  · rename_i hk
    rw [if_neg (by omega), if_neg (by omega), if_pos hk] at h
    rw [if_neg (by omega), if_neg (by omega)]
    split at h
    · cases h
    · rename_i h1; rw [if_neg h1]
  · rename_i hk
    split
    · rfl
    · split
      · rename_i h1 h2
        rw [if_neg h1, if_pos h2] at h
        simp at h
        simp [h, h2]
      · rename_i h1 h2
        rw [if_neg h1, if_neg h2, if_neg hk] at h
        cases h
theorem RGreatest_does {f p : Int} (hf : fmOk f p = true) : Does Tryd.prog G 42 [Fm f p] (.int .i64 (gOfE f)) := by
  obtain ⟨b1, b2, b3, b4⟩ := fmOk_spec hf
  obtain ⟨b5, b6⟩ := gOfE_le b1 b2
  have hg : (2 : Int) ^ (f.toNat - 1) = gOfE f + 1 := by unfold gOfE; omega
  refine Does.of (nt := 8) Tryd.func42 rfl rfl rfl (by simp) ?_
  simp only [argTm, PV.ext, Ce.ext]
  refine Do.seqk fun _ k1_ => ?_
  refine Do.region [1] true ?_
  simp [go_sem]
  apply k1_; clear k1_
  refine Do.seqk fun _ k2_ => ?_
  refine Do.region [2] true ?_
  simp [go_sem]
  repeat (refine And.intro (by first | omega | (intros; omega) | grind) ?_)
  rw [hg]
  repeat (refine And.intro (by omega) ?_)
  apply k2_; clear k2_
  refine Do.ret ?_
  simp [endQ, rets, ret1, go_sem]
  repeat (refine And.intro (by first | omega | (intros; omega) | grind) ?_)
  exact ret_i (by omega)
end Go.Proofs.YtbhokdhkfodpfaaDoor
/- The formats of the reference, and its check of arguments. No condition. -/
namespace Go.Proofs.YtbhokdhkfodpfaaDoor
set_option linter.unusedVariables false
set_option linter.unusedSimpArgs false
variable {G : Gl}
set_option maxHeartbeats 2000000
theorem RLeast_does {f p : Int} (hf : fmOk f p = true) : Does Tryd.prog G 70 [Fm f p] (.int .i64 (1 - gOfE f)) := by
  obtain ⟨b1, b2, b3, b4⟩ := fmOk_spec hf
  obtain ⟨b5, b6⟩ := gOfE_le b1 b2
  refine Does.of (nt := 6) Tryd.func70 rfl rfl rfl (by simp) ?_
  simp only [argTm, PV.ext, Ce.ext]
  refine Do.seqk fun _ k1_ => ?_
  refine Do.region [1] true ?_
  simp [go_sem]
  apply k1_; clear k1_
  refine Do.seqk fun _ k2_ => ?_
  refine Do.region [2] true ?_
  simp [go_sem]
  repeat (refine And.intro (by first | omega | (intros; omega) | grind) ?_)
  refine DoL.call true 102 rfl rfl rfl rfl (by first | exact trivial | omega | (simp; done) | (simp; omega)) (RGreatest_does hf) rfl (by first | exact .inl rfl | exact .inr rfl) rfl ?_
  simp [go_sem]
  repeat (refine And.intro (by first | omega | (intros; omega) | grind) ?_)
  apply k2_; clear k2_
  refine Do.ret ?_
  simp [endQ, rets, ret1, go_sem]
  repeat (refine And.intro (by first | omega | (intros; omega) | grind) ?_)
  exact TLe.refl _
theorem RTiny_does {f p : Int} (hf : fmOk f p = true) : Does Tryd.prog G 41 [Fm f p] (.int .i64 (1 - gOfE f - (p - 1))) := by
  obtain ⟨b1, b2, b3, b4⟩ := fmOk_spec hf
  obtain ⟨b5, b6⟩ := gOfE_le b1 b2
  refine Does.of (nt := 9) Tryd.func41 rfl rfl rfl (by simp) ?_
  simp only [argTm, PV.ext, Ce.ext]
  refine Do.seqk fun _ k1_ => ?_
  refine Do.region [1] true ?_
  simp [go_sem]
  apply k1_; clear k1_
  refine Do.seqk fun _ k2_ => ?_
  refine Do.draw [2] true (by kernel_rfl) ?_
  simp [go_sem]
  repeat (refine And.intro (by first | omega | (intros; omega) | kernel_rfl | grind) ?_)
  refine DoLD.call true 102 rfl rfl rfl rfl (by first | exact trivial | omega | (simp; done) | (simp; omega)) (RLeast_does hf) rfl (by first | exact .inl rfl | exact .inr rfl) rfl ?_
  simp [go_sem]
  repeat (refine And.intro (by first | omega | (intros; omega) | kernel_rfl | grind) ?_)
  try (refine And.intro (by kernel_rfl) ?_)
  apply k2_; clear k2_
  refine Do.ret ?_
  simp [endQ, rets, ret1, go_sem]
  repeat (refine And.intro (by first | omega | (intros; omega) | grind) ?_)
  exact TLe.refl _
theorem RRightF_does {f p : Int} : Does Tryd.prog G 22 [Fm f p] (.v (.c (.b (fmOk f p)))) := by
  refine Does.of (nt := 21) Tryd.func22 rfl rfl rfl (by simp) ?_
  simp only [argTm, PV.ext, Ce.ext]
  refine Do.seqk fun _ k1_ => ?_
  refine Do.region [1] true ?_
  simp [go_sem]
  apply k1_; clear k1_
  refine Do.seqk fun _ k2_ => ?_
  refine Do.region [2] true ?_
  simp [go_sem]
  repeat (refine And.intro (by first | omega | (intros; omega) | grind) ?_)
  apply k2_; clear k2_
  refine Do.ret ?_
  simp [endQ, rets, ret1, go_sem]
  repeat (refine And.intro (by first | omega | (intros; omega) | grind) ?_)
  exact ret_b (by simp [fmOk])
theorem NLarge_does {m : List Nat} (hm : Sh m) : Does Tryd.prog G 9 [Wd m] (.v (.c (.b (decide (4096 < (m.length : Int)))))) := by
  refine Does.of (nt := 6) Tryd.func9 rfl rfl rfl (by simp) ?_
  simp only [argTm, PV.ext, Ce.ext]
  refine Do.seqk fun _ k1_ => ?_
  refine Do.region [0] true ?_
  simp [go_sem]
  apply k1_; clear k1_
  refine Do.seqk fun _ k2_ => ?_
  refine Do.region [2] true ?_
  simp [go_sem]
  repeat (refine And.intro (by first | omega | (intros; omega) | grind) ?_)
  apply k2_; clear k2_
  refine Do.ret ?_
  simp [endQ, rets, ret1, go_sem]
  repeat (refine And.intro (by first | omega | (intros; omega) | grind) ?_)
  exact TLe.refl _
theorem FLarge_does {k e : Int} {n : Bool} {m : List Nat} (hm : Sh m) : Does Tryd.prog G 21 [Fl k n e m] (.v (.c (.b (decide (4096 < (m.length : Int)))))) := by
  refine Does.of (nt := 6) Tryd.func21 rfl rfl rfl (by simp) ?_
  simp only [argTm, PV.ext, Ce.ext]
  refine Do.seqk fun _ k1_ => ?_
  refine Do.region [1] true ?_
  simp [go_sem]
  apply k1_; clear k1_
  refine Do.seqk fun _ k2_ => ?_
  refine Do.region [2] true ?_
  simp [go_sem]
  repeat (refine And.intro (by first | omega | (intros; omega) | grind) ?_)
  refine DoL.call true 103 rfl rfl rfl rfl (by first | exact trivial | omega | (simp; done) | (simp; omega)) (NLarge_does hm) rfl (by first | exact .inl rfl | exact .inr rfl) rfl ?_
  simp [go_sem]
  apply k2_; clear k2_
  refine Do.ret ?_
  simp [endQ, rets, ret1, go_sem]
  repeat (refine And.intro (by first | omega | (intros; omega) | grind) ?_)
  exact TLe.refl _
/-- Is a float one of a format, by the reference? -/
def inP (f p : Int) (x : Flt) : Bool :=
  if x.k = 1 then decide ((bl (rcanon x).v : Int) ≤ p) && decide (1 - gOfE f - (p - 1) ≤ (rcanon x).e) && decide ((bl (rcanon x).v : Int) + (rcanon x).e ≤ gOfE f + 1) else true
theorem inP_good {f p : Int} {x : Flt} (h : (canon x).2 = true) : inP f p x = (holdsP f p x).2 := by
  have h1 := rcanon_good h
  have hk : (canon x).1.k = x.k := by rw [← h1]; unfold rcanon; split <;> simp_all
  unfold inP holdsP
  rw [h1]
  by_cases hk1 : x.k = 1
  · rw [if_pos hk1, if_neg (by simp [h, hk, hk1])]
    simp only []
    congr 1
    rw [decide_eq_decide]; omega
  · rw [if_neg hk1, if_pos (by simp [hk, hk1]), h]
theorem holds_good {f p : Int} {x : Flt} : ((canon x).2 && inP f p x) = (holdsP f p x).2 := by
  cases h : (canon x).2 with
  | true => rw [Bool.true_and, inP_good h]
  | false => unfold holdsP; rw [if_pos (.inl h), h]; rfl
theorem rv_le {k e : Int} {n : Bool} {m : List Nat} : (rcanon ⟨k, n, e, val m⟩).v ≤ val m := by
  unfold rcanon; split
  · exact Nat.div_le_self _ _
  · exact Nat.zero_le _
theorem In_does {f p k e : Int} {n : Bool} {m : List Nat} (hf : fmOk f p = true) (hm : m.length ≤ 1073741824) (wm : Ws m) (he : Md e) : Does Tryd.prog G 24 [Fm f p, Fl k n e m] (.v (.c (.b (inP f p ⟨k, n, e, val m⟩)))) := by
  obtain ⟨b1, b2, b3, b4⟩ := fmOk_spec hf
  obtain ⟨b5, b6⟩ := gOfE_le b1 b2
  have hv := bl_le_len wm (Nat.div_le_self (val m) (2 ^ tz (val m)))
  have hl := nat_len_le wm (Nat.div_le_self (val m) (2 ^ tz (val m)))
  have hn := @RLen_does G (nat (val m / 2 ^ tz (val m))) (by omega) (nat_ws _)
  rw [val_nat] at hn
  have ht : tz (val m) < 64 * m.length + 1 := by
    by_cases h : val m = 0
    · rw [h, tz_zero]; omega
    · have := tz_bound wm h; omega
  refine Does.of (nt := 36) Tryd.func24 rfl rfl rfl (by simp) ?_
  simp only [argTm, PV.ext, Ce.ext]
  refine Do.seqk fun _ k1_ => ?_
  refine Do.region [2,3] true ?_
  simp [go_sem]
  apply k1_; clear k1_
  refine Do.seqk fun _ k2_ => ?_
  refine Do.seqk fun _ k3_ => ?_
  refine Do.region [2,3,9] true ?_
  simp [go_sem]
  repeat (refine And.intro (by first | omega | (intros; omega) | grind) ?_)
  apply k3_; clear k3_
  refine Do.cond [2,3] rfl (fun h => ?_) (fun h => ?_) <;> simp [go_sem] at h ⊢
  · refine Do.seqk fun _ k4_ => ?_
    refine Do.region [4] true ?_
    simp [go_sem]
    apply k4_; clear k4_
    refine Do.ret ?_
    simp [endQ, rets, ret1, go_sem]
    repeat (refine And.intro (by first | omega | (intros; omega) | grind) ?_)
    refine ret_b ?_
    rw [inP, if_neg h]
  · refine Do.skip ?_
    simp [go_sem]
    apply k2_; clear k2_
    refine Do.seqk fun _ k5_ => ?_
    refine Do.region [2,5,6] true ?_
    simp [go_sem]
    repeat (refine And.intro (by first | omega | (intros; omega) | grind) ?_)
    refine DoL.call true 302 rfl rfl rfl rfl (by first | exact trivial | omega | (simp; done) | (simp; omega)) (odd_does hm wm he) rfl (by first | exact .inl rfl | exact .inr rfl) rfl ?_
    simp [go_sem]
    apply k5_; clear k5_
    refine Do.seqk fun _ k6_ => ?_
    refine Do.draw [4] true (by kernel_rfl) ?_
    simp [go_sem]
    refine DoLD.call true 402 rfl rfl rfl rfl (by first | exact trivial | omega | (simp; done) | (simp; omega)) (hn) rfl (by first | exact .inl rfl | exact .inr rfl) rfl ?_
    simp [go_sem]
    repeat (refine And.intro (by first | omega | (intros; omega) | kernel_rfl | grind) ?_)
    refine DoLD.callg true 409 rfl rfl rfl rfl rfl (by simp [go_sem] <;> omega) (fun _ => RTiny_does hf) rfl (by first | exact .inl rfl | exact .inr rfl) rfl ?_
    simp [go_sem]
    refine DoLD.callg true 414 rfl rfl rfl rfl rfl (by simp [go_sem] <;> omega) (fun _ => hn) rfl (by first | exact .inl rfl | exact .inr rfl) rfl ?_
    simp [go_sem]
    repeat (refine And.intro (by first | omega | (intros; omega) | kernel_rfl | grind) ?_)
    refine DoLD.callg true 418 rfl rfl rfl rfl rfl (by simp [go_sem] <;> omega) (fun _ => RGreatest_does hf) rfl (by first | exact .inl rfl | exact .inr rfl) rfl ?_
    simp [go_sem]
    repeat (refine And.intro (by first | omega | (intros; omega) | kernel_rfl | grind) ?_)
    try (refine And.intro (by kernel_rfl) ?_)
    apply k6_; clear k6_
    refine Do.ret ?_
    simp [endQ, rets, ret1, go_sem]
    repeat (refine And.intro (by first | omega | (intros; omega) | grind) ?_)
    refine ret_b ?_
    rw [inP, if_pos h, rcanon, if_pos h]
theorem Known_does {r : Int} : Does Tryd.prog G 10 [.c (.i .i64 r)] (.v (.c (.b (decide (0 ≤ r) && decide (r ≤ 4))))) := by
  refine Does.of (nt := 9) Tryd.func10 rfl rfl rfl (by simp) ?_
  simp only [argTm, PV.ext, Ce.ext]
  refine Do.seqk fun _ k1_ => ?_
  refine Do.region [0] true ?_
  simp [go_sem]
  apply k1_; clear k1_
  refine Do.seqk fun _ k2_ => ?_
  refine Do.region [2] true ?_
  simp [go_sem]
  apply k2_; clear k2_
  refine Do.ret ?_
  simp [endQ, rets, ret1, go_sem]
  repeat (refine And.intro (by first | omega | (intros; omega) | grind) ?_)
  exact TLe.refl _
theorem good_md {x : Flt} (h : (canon x).2 = true) : Md x.e := by
  unfold canon at h
  split at h
  · simp at h; omega
  · split at h
    · simp at h; omega
    · split at h
      · split at h
        · cases h
        · constructor <;> omega
      · cases h
theorem RCheck_does {f p : Int} {l : List Fla} (hl : l.length < 1099511627776) (ho : ∀ x ∈ l, x.Ok) : Does Tryd.prog G 11 [Fm f p, Rows l] (.int .i64 (argsE f p 0 false l)) := by
  refine Does.of (nt := 42) Tryd.func11 rfl rfl rfl (by simp) ?_
  simp only [argTm, PV.ext, Ce.ext]
  refine Do.seqk fun _ k1_ => ?_
  refine Do.region [1,2] true ?_
  simp [go_sem]
  apply k1_; clear k1_
  refine Do.seqk fun _ k2_ => ?_
  refine Do.seqk fun _ k3_ => ?_
  refine Do.region [1,2,5] true ?_
  simp [go_sem]
  apply k3_; clear k3_
  refine Do.block ?_
  refine Do.loopF [1,2,5] (fun (i : Nat) => [(5, .int .i64 i)]) (fun (i : Nat) => []) (fun (i : Nat) => i ≤ l.length ∧ ∀ j, j < i → ∀ x, l[j]? = some x → x.m.length ≤ 4096) (fun (i : Nat) => l.length - i) (0) (fun _ => by first | (simp [go_sem, mixS]; done) | (simp [go_sem, mixS]; rfl)) (St.le_of (by first | rfl | simp [keep]) (by first | rfl | simp [keep])) (⟨Nat.zero_le _, fun j hj => absurd hj (Nat.not_lt_zero j)⟩) ?_
  rintro i ⟨hi, hz⟩
  refine Do.seqk fun _ k4_ => ?_
  refine Do.seqk fun _ k5_ => ?_
  refine Do.region [1,2,5,10] true ?_
  simp [go_sem]
  repeat (refine And.intro (by first | omega | (intros; omega) | grind) ?_)
  apply k5_; clear k5_
  refine Do.cond [1,2,5] rfl (fun h2 => ?_) (fun h2 => ?_) <;> simp [go_sem] at h2 ⊢
  · obtain ⟨x, hx⟩ : ∃ x, l[i]? = some x := ⟨_, List.getElem?_eq_getElem h2⟩
    have hxo := ho x (List.mem_of_getElem? hx)
    refine Do.skip ?_
    simp [go_sem]
    apply k4_; clear k4_
    refine Do.seqk fun _ k6_ => ?_
    refine Do.block ?_
    refine Do.seqk fun _ k7_ => ?_
    refine Do.region [1,2,5,17] true ?_
    simp [go_sem, hx]
    repeat (refine And.intro (by first | omega | (intros; omega) | grind) ?_)
    refine DoL.call true 405 rfl rfl rfl rfl (by first | exact trivial | omega | (simp; done) | (simp; omega)) (FLarge_does hxo.sh) rfl (by first | exact .inl rfl | exact .inr rfl) rfl ?_
    simp [go_sem, hx]
    apply k7_; clear k7_
    refine Do.cond [1,2,5] rfl (fun h3 => ?_) (fun h3 => ?_) <;> simp [go_sem, hx] at h3 ⊢
    · refine Do.seqk fun _ k8_ => ?_
      refine Do.region [4] true ?_
      simp [go_sem, hx]
      apply k8_; clear k8_
      refine Do.ret ?_
      simp [endQ, rets, ret1, go_sem, hx]
      repeat (refine And.intro (by first | omega | (intros; omega) | grind) ?_)
      refine ret_i ?_
      rw [argsE, if_pos]
      rw [anyLarge, List.any_eq_true]
      exact ⟨x, List.mem_of_getElem? hx, by simp; omega⟩
    · refine Do.skip ?_
      simp [go_sem]
      apply k6_; clear k6_
      refine Do.region [1,2,5] true ?_
      simp [go_sem, hx]
      repeat (refine And.intro (by first | omega | (intros; omega) | grind) ?_)
      refine ⟨i + 1, St.le_of (by first | rfl | simp [keep]) (by first | rfl | simp [keep]), ⟨by omega, ?_⟩, by simp; omega⟩
      intro j hj y hy
      by_cases e : j = i
      · subst e; rw [hx] at hy; injection hy with hy; subst hy; omega
      · exact hz j (by omega) y hy
  · have e : i = l.length := by omega
    have hal : anyLarge l = false := by
      rw [anyLarge, List.any_eq_false]
      intro x hx
      obtain ⟨j, hj, e2⟩ := List.getElem_of_mem hx
      have := hz j (by omega) x (by rw [List.getElem?_eq_getElem hj, e2])
      simp; omega
    have hsm := notLarge hal
    refine Do.exit ?_
    simp [go_sem]
    apply k2_; clear k2_
    refine Do.seqk fun _ k9_ => ?_
    refine Do.seqk fun _ k10_ => ?_
    refine Do.region [1,2,20] true ?_
    simp [go_sem]
    repeat (refine And.intro (by first | omega | (intros; omega) | grind) ?_)
    refine DoL.call true 602 rfl rfl rfl rfl (by first | exact trivial | omega | (simp; done) | (simp; omega)) (RRightF_does) rfl (by first | exact .inl rfl | exact .inr rfl) rfl ?_
    simp [go_sem]
    repeat (refine And.intro (by first | omega | (intros; omega) | grind) ?_)
    apply k10_; clear k10_
    refine Do.cond [1,2] rfl (fun h3 => ?_) (fun h3 => ?_) <;> simp [go_sem] at h3 ⊢
    · refine Do.seqk fun _ k11_ => ?_
      refine Do.region [4] true ?_
      simp [go_sem]
      apply k11_; clear k11_
      refine Do.ret ?_
      simp [endQ, rets, ret1, go_sem]
      repeat (refine And.intro (by first | omega | (intros; omega) | grind) ?_)
      refine ret_i ?_
      simp [argsE, hal, h3]
    · refine Do.skip ?_
      simp [go_sem]
      apply k9_; clear k9_
      refine Do.seqk fun _ k12_ => ?_
      refine Do.seqk fun _ k13_ => ?_
      refine Do.region [1,2,6] true ?_
      simp [go_sem]
      apply k13_; clear k13_
      refine Do.block ?_
      refine Do.loopF [1,2,6] (fun (i : Nat) => [(6, .int .i64 i)]) (fun (i : Nat) => []) (fun (i : Nat) => i ≤ l.length ∧ ∀ j, j < i → ∀ x, l[j]? = some x → (holdsP f p x.flt).2 = true) (fun (i : Nat) => l.length - i) (0) (fun _ => by first | (simp [go_sem, mixS]; done) | (simp [go_sem, mixS]; rfl)) (St.le_of (by first | rfl | simp [keep]) (by first | rfl | simp [keep])) (⟨Nat.zero_le _, fun j hj => absurd hj (Nat.not_lt_zero j)⟩) ?_
      rintro i ⟨hi, hz⟩
      refine Do.seqk fun _ k14_ => ?_
      refine Do.seqk fun _ k15_ => ?_
      refine Do.region [1,2,6,24] true ?_
      simp [go_sem]
      repeat (refine And.intro (by first | omega | (intros; omega) | grind) ?_)
      apply k15_; clear k15_
      refine Do.cond [1,2,6] rfl (fun h2 => ?_) (fun h2 => ?_) <;> simp [go_sem] at h2 ⊢
      · obtain ⟨x, hx⟩ : ∃ x, l[i]? = some x := ⟨_, List.getElem?_eq_getElem h2⟩
        have hxo := ho x (List.mem_of_getElem? hx)
        have hxl := hsm x (List.mem_of_getElem? hx)
        have hg := @holds_good f p x.flt
        refine Do.skip ?_
        simp [go_sem]
        apply k14_; clear k14_
        refine Do.seqk fun _ k16_ => ?_
        refine Do.block ?_
        refine Do.seqk fun _ k17_ => ?_
        refine Do.draw [1,2,6,41] true (by kernel_rfl) ?_
        simp [go_sem, hx]
        repeat (refine And.intro (by first | omega | (intros; omega) | kernel_rfl | grind) ?_)
        refine DoLD.call true 1105 rfl rfl rfl rfl (by first | exact trivial | omega | (simp; done) | (simp; omega)) (Good_does (by omega) hxo.ws) rfl (by first | exact .inl rfl | exact .inr rfl) rfl ?_
        simp [go_sem, hx]
        repeat (refine And.intro (by first | omega | (intros; omega) | kernel_rfl | grind) ?_)
        refine DoLD.callg true 1113 rfl rfl rfl rfl rfl (by simp [go_sem] <;> omega) (fun h => In_does h3 (by omega) hxo.ws (good_md (by simpa using h))) rfl (by first | exact .inl rfl | exact .inr rfl) rfl ?_
        simp [go_sem, hx]
        repeat (refine And.intro (by first | omega | (intros; omega) | kernel_rfl | grind) ?_)
        try (refine And.intro (by kernel_rfl) ?_)
        apply k17_; clear k17_
        refine Do.cond [1,2,6] rfl (fun h4 => ?_) (fun h4 => ?_) <;> simp [go_sem, hx] at h4 ⊢
        · refine Do.seqk fun _ k18_ => ?_
          refine Do.region [4] true ?_
          simp [go_sem, hx]
          apply k18_; clear k18_
          refine Do.ret ?_
          simp [endQ, rets, ret1, go_sem, hx]
          repeat (refine And.intro (by first | omega | (intros; omega) | grind) ?_)
          refine ret_i ?_
          have hn : (holdsP f p x.flt).2 = false := by
            rw [← hg]
            rcases h4 with h4 | h4
            · rw [show x.flt = ⟨x.k, x.n, x.e, val x.m⟩ from rfl, h4]; rfl
            · rw [show x.flt = ⟨x.k, x.n, x.e, val x.m⟩ from rfl, h4]; simp
          have hall : allHold f p l = false := by
            rw [allHold, List.all_eq_false]
            exact ⟨x, List.mem_of_getElem? hx, by rw [hn]; exact Bool.false_ne_true⟩
          simp [argsE, hal, h3, hall]
        · refine Do.skip ?_
          simp [go_sem]
          apply k16_; clear k16_
          refine Do.region [1,2,6] true ?_
          simp [go_sem, hx]
          repeat (refine And.intro (by first | omega | (intros; omega) | grind) ?_)
          refine ⟨i + 1, St.le_of (by first | rfl | simp [keep]) (by first | rfl | simp [keep]), ⟨by omega, ?_⟩, by simp; omega⟩
          intro j hj y hy
          by_cases e : j = i
          · subst e; rw [hx] at hy; injection hy with hy; subst hy
            rw [← hg, show x.flt = ⟨x.k, x.n, x.e, val x.m⟩ from rfl, h4.1, h4.2]; rfl
          · exact hz j (by omega) y hy
      · refine Do.exit ?_
        simp [go_sem]
        apply k12_; clear k12_
        refine Do.seqk fun _ k19_ => ?_
        refine Do.region [4] true ?_
        simp [go_sem]
        apply k19_; clear k19_
        refine Do.ret ?_
        simp [endQ, rets, ret1, go_sem]
        repeat (refine And.intro (by first | omega | (intros; omega) | grind) ?_)
        refine ret_i ?_
        have e : i = l.length := by omega
        have hall : allHold f p l = true := by
          rw [allHold, List.all_eq_true]
          intro x hx
          obtain ⟨j, hj, e2⟩ := List.getElem_of_mem hx
          exact hz j (by omega) x (by rw [List.getElem?_eq_getElem hj, e2])
        simp [argsE, hal, h3, hall]
end Go.Proofs.YtbhokdhkfodpfaaDoor
/- What the laws' packages compute of floats. No condition. -/
namespace Go.Proofs.YtbhokdhkfodpfaaDoor
set_option linter.unusedVariables false
set_option linter.unusedSimpArgs false
variable {G : Gl}
set_option maxHeartbeats 2000000
def shortP (l : List Fla) : Bool := l.all fun x => decide (x.m.length ≤ 40)
theorem Short15_does {l : List Fla} (hl : l.length < 1099511627776) : Does Tryd.prog G 4 [Rows l] (.v (.c (.b (shortP l)))) := by
  refine Does.of (nt := 17) Tryd.func4 rfl rfl rfl (by simp) ?_
  simp only [argTm, PV.ext, Ce.ext]
  refine Do.seqk fun _ k1_ => ?_
  refine Do.region [0] true ?_
  simp [go_sem]
  apply k1_; clear k1_
  refine Do.seqk fun _ k2_ => ?_
  refine Do.seqk fun _ k3_ => ?_
  refine Do.region [0,3] true ?_
  simp [go_sem]
  apply k3_; clear k3_
  refine Do.block ?_
  refine Do.loopF [0,3] (fun (i : Nat) => [(3, .int .i64 i)]) (fun (i : Nat) => []) (fun (i : Nat) => i ≤ l.length ∧ ∀ j, j < i → ∀ x, l[j]? = some x → x.m.length ≤ 40) (fun (i : Nat) => l.length - i) (0) (fun _ => by first | (simp [go_sem, mixS]; done) | (simp [go_sem, mixS]; rfl)) (St.le_of (by first | rfl | simp [keep]) (by first | rfl | simp [keep])) (⟨Nat.zero_le _, fun j hj => absurd hj (Nat.not_lt_zero j)⟩) ?_
  rintro i ⟨hi, hz⟩
  refine Do.seqk fun _ k4_ => ?_
  refine Do.seqk fun _ k5_ => ?_
  refine Do.region [0,3,7] true ?_
  simp [go_sem]
  repeat (refine And.intro (by first | omega | (intros; omega) | grind) ?_)
  apply k5_; clear k5_
  refine Do.cond [0,3] rfl (fun h2 => ?_) (fun h2 => ?_) <;> simp [go_sem] at h2 ⊢
  · obtain ⟨x, hx⟩ : ∃ x, l[i]? = some x := ⟨_, List.getElem?_eq_getElem h2⟩
    refine Do.skip ?_
    simp [go_sem]
    apply k4_; clear k4_
    refine Do.seqk fun _ k6_ => ?_
    refine Do.block ?_
    refine Do.seqk fun _ k7_ => ?_
    refine Do.region [0,3,16] true ?_
    simp [go_sem, hx]
    repeat (refine And.intro (by first | omega | (intros; omega) | grind) ?_)
    apply k7_; clear k7_
    refine Do.cond [0,3] rfl (fun h3 => ?_) (fun h3 => ?_) <;> simp [go_sem, hx] at h3 ⊢
    · refine Do.seqk fun _ k8_ => ?_
      refine Do.region [2] true ?_
      simp [go_sem, hx]
      apply k8_; clear k8_
      refine Do.ret ?_
      simp [endQ, rets, ret1, go_sem, hx]
      repeat (refine And.intro (by first | omega | (intros; omega) | grind) ?_)
      refine ret_b (Eq.symm ?_)
      rw [shortP, List.all_eq_false]
      exact ⟨x, List.mem_of_getElem? hx, by simp; omega⟩
    · refine Do.skip ?_
      simp [go_sem]
      apply k6_; clear k6_
      refine Do.region [0,3] true ?_
      simp [go_sem, hx]
      repeat (refine And.intro (by first | omega | (intros; omega) | grind) ?_)
      refine ⟨i + 1, St.le_of (by first | rfl | simp [keep]) (by first | rfl | simp [keep]), ⟨by omega, ?_⟩, by simp; omega⟩
      intro j hj y hy
      by_cases e : j = i
      · subst e; rw [hx] at hy; injection hy with hy; subst hy; omega
      · exact hz j (by omega) y hy
  · refine Do.exit ?_
    simp [go_sem]
    apply k2_; clear k2_
    refine Do.seqk fun _ k9_ => ?_
    refine Do.region [2] true ?_
    simp [go_sem]
    apply k9_; clear k9_
    refine Do.ret ?_
    simp [endQ, rets, ret1, go_sem]
    repeat (refine And.intro (by first | omega | (intros; omega) | grind) ?_)
    refine ret_b (Eq.symm ?_)
    rw [shortP, List.all_eq_true]
    intro x hx
    obtain ⟨j, hj, e2⟩ := List.getElem_of_mem hx
    have := hz j (by omega) x (by rw [List.getElem?_eq_getElem hj, e2])
    simpa using this
theorem Their_does {k e : Int} {n : Bool} {m : List Nat} : Does Tryd.prog G 25 [Fl k n e m] (.v (Fl k n e m)) := by
  refine Does.of (nt := 12) Tryd.func25 rfl rfl rfl (by simp) ?_
  simp only [argTm, PV.ext, Ce.ext]
  refine Do.seqk fun _ k1_ => ?_
  refine Do.region [1,2] true ?_
  simp [go_sem]
  apply k1_; clear k1_
  refine Do.seqk fun _ k2_ => ?_
  refine Do.region [2] true ?_
  simp [go_sem]
  repeat (refine And.intro (by first | omega | (intros; omega) | grind) ?_)
  apply k2_; clear k2_
  refine Do.ret ?_
  simp [endQ, rets, ret1, go_sem]
  repeat (refine And.intro (by first | omega | (intros; omega) | grind) ?_)
  exact TLe.refl _
theorem Fmt_does {f p : Int} : Does Tryd.prog G 12 [Fm f p] (.v (Fm f p)) := by
  refine Does.of (nt := 8) Tryd.func12 rfl rfl rfl (by simp) ?_
  simp only [argTm, PV.ext, Ce.ext]
  refine Do.seqk fun _ k1_ => ?_
  refine Do.region [1,2] true ?_
  simp [go_sem]
  apply k1_; clear k1_
  refine Do.seqk fun _ k2_ => ?_
  refine Do.region [2] true ?_
  simp [go_sem]
  repeat (refine And.intro (by first | omega | (intros; omega) | grind) ?_)
  apply k2_; clear k2_
  refine Do.ret ?_
  simp [endQ, rets, ret1, go_sem]
  repeat (refine And.intro (by first | omega | (intros; omega) | grind) ?_)
  exact TLe.refl _
theorem Theirs_does {l : List Fla} (hl : l.length < 1099511627776) : Does Tryd.prog G 13 [Rows l] (.v (.s true (l.map Fla.cs))) := by
  refine Does.of (nt := 20) Tryd.func13 rfl rfl rfl (by simp) ?_
  simp only [argTm, PV.ext, Ce.ext]
  refine Do.seqk fun _ k1_ => ?_
  refine Do.region [0] true ?_
  simp [go_sem]
  apply k1_; clear k1_
  refine Do.seqk fun _ k2_ => ?_
  refine Do.region [0,3] true ?_
  simp [go_sem]
  apply k2_; clear k2_
  refine Do.seqk fun _ k3_ => ?_
  refine Do.seqk fun _ k4_ => ?_
  refine Do.region [0,3,4] true ?_
  simp [go_sem]
  apply k4_; clear k4_
  refine Do.block ?_
  refine Do.own 3 900 4 rfl rfl (by decide) ?_
  simp [go_sem]
  refine Do.loopF [0,3,4] (fun (i : Nat) => [(3, .v (.c (.r 900 i))), (4, .int .i64 i)]) (fun (i : Nat) => [(900, .sr 4 ((l.map Fla.cs).take i))]) (fun (i : Nat) => i ≤ l.length) (fun (i : Nat) => l.length - i) (0) (fun _ => by first | (simp [go_sem, mixS]; done) | (simp [go_sem, mixS]; rfl)) (St.le_of (by first | rfl | simp [keep]) (by first | rfl | simp [keep])) (Nat.zero_le _) ?_
  intro i hi
  refine Do.seqk fun _ k5_ => ?_
  refine Do.seqk fun _ k6_ => ?_
  refine Do.region [0,3,4,8] true ?_
  simp [go_sem]
  repeat (refine And.intro (by first | omega | (intros; omega) | grind) ?_)
  apply k6_; clear k6_
  refine Do.cond [0,3,4] rfl (fun h2 => ?_) (fun h2 => ?_) <;> simp [go_sem] at h2 ⊢
  · obtain ⟨x, hx⟩ : ∃ x, l[i]? = some x := ⟨_, List.getElem?_eq_getElem h2⟩
    have hmin : min i l.length = i := by omega
    refine Do.skip ?_
    simp [go_sem]
    apply k5_; clear k5_
    refine Do.seqk fun _ k7_ => ?_
    refine Do.block ?_
    refine Do.region [0,3,4] true ?_
    simp [go_sem, hx, hmin]
    repeat (refine And.intro (by first | omega | (intros; omega) | grind) ?_)
    refine DoL.call true 506 rfl rfl rfl rfl (by first | exact trivial | omega | (simp; done) | (simp; omega)) (Their_does) rfl (by first | exact .inl rfl | exact .inr rfl) rfl ?_
    simp [go_sem, hx, hmin]
    repeat (refine And.intro (by first | omega | (intros; omega) | grind) ?_)
    apply k7_; clear k7_
    refine Do.region [0,3,4] true ?_
    simp [go_sem, hx, hmin]
    repeat (refine And.intro (by first | omega | (intros; omega) | grind) ?_)
    refine ⟨i + 1, St.le_of rfl (by simp [keep, List.take_add_one, hx]), by omega, by simp; omega⟩
  · refine Do.exit ?_
    simp [go_sem]
    apply k3_; clear k3_
    refine Do.seqk fun _ k8_ => ?_
    refine Do.region [2] true ?_
    simp [go_sem]
    apply k8_; clear k8_
    refine Do.ret ?_
    simp [endQ, rets, ret1, go_sem]
    repeat (refine And.intro (by first | omega | (intros; omega) | grind) ?_)
    have e : i = l.length := by omega
    rw [List.take_of_length_le (by simp; omega)]
    exact TLe.refl _
theorem KArgs_does {f p r : Int} {l : List Fla} (hl : l.length < 1099511627776) (ho : ∀ x ∈ l, x.Ok) : Does Tryd.prog G 5 [Fm f p, .c (.i .i64 r), Rows l] (.int .i64 (argsE f p r false l)) := by
  refine Does.of (nt := 28) Tryd.func5 rfl rfl rfl (by simp) ?_
  simp only [argTm, PV.ext, Ce.ext]
  refine Do.seqk fun _ k1_ => ?_
  refine Do.region [1,2,3] true ?_
  simp [go_sem]
  apply k1_; clear k1_
  refine Do.seqk fun _ k2_ => ?_
  refine Do.seqk fun _ k3_ => ?_
  refine Do.region [1,2,3,7] true ?_
  simp [go_sem]
  apply k3_; clear k3_
  refine Do.block ?_
  refine Do.loopF [1,2,3,7] (fun (i : Nat) => [(7, .int .i64 i)]) (fun (i : Nat) => []) (fun (i : Nat) => i ≤ l.length ∧ ∀ j, j < i → ∀ x, l[j]? = some x → x.m.length ≤ 4096) (fun (i : Nat) => l.length - i) (0) (fun _ => by first | (simp [go_sem, mixS]; done) | (simp [go_sem, mixS]; rfl)) (St.le_of (by first | rfl | simp [keep]) (by first | rfl | simp [keep])) (⟨Nat.zero_le _, fun j hj => absurd hj (Nat.not_lt_zero j)⟩) ?_
  rintro i ⟨hi, hz⟩
  refine Do.seqk fun _ k4_ => ?_
  refine Do.seqk fun _ k5_ => ?_
  refine Do.region [1,2,3,7,11] true ?_
  simp [go_sem]
  repeat (refine And.intro (by first | omega | (intros; omega) | grind) ?_)
  apply k5_; clear k5_
  refine Do.cond [1,2,3,7] rfl (fun h2 => ?_) (fun h2 => ?_) <;> simp [go_sem] at h2 ⊢
  · obtain ⟨x, hx⟩ : ∃ x, l[i]? = some x := ⟨_, List.getElem?_eq_getElem h2⟩
    have hxo := ho x (List.mem_of_getElem? hx)
    refine Do.skip ?_
    simp [go_sem]
    apply k4_; clear k4_
    refine Do.seqk fun _ k6_ => ?_
    refine Do.block ?_
    refine Do.seqk fun _ k7_ => ?_
    refine Do.region [1,2,3,7,19] true ?_
    simp [go_sem, hx]
    repeat (refine And.intro (by first | omega | (intros; omega) | grind) ?_)
    refine DoL.call true 406 rfl rfl rfl rfl (by first | exact trivial | omega | (simp; done) | (simp; omega)) (NLarge_does hxo.sh) rfl (by first | exact .inl rfl | exact .inr rfl) rfl ?_
    simp [go_sem, hx]
    apply k7_; clear k7_
    refine Do.cond [1,2,3,7] rfl (fun h3 => ?_) (fun h3 => ?_) <;> simp [go_sem, hx] at h3 ⊢
    · refine Do.seqk fun _ k8_ => ?_
      refine Do.region [6] true ?_
      simp [go_sem, hx]
      apply k8_; clear k8_
      refine Do.ret ?_
      simp [endQ, rets, ret1, go_sem, hx]
      repeat (refine And.intro (by first | omega | (intros; omega) | grind) ?_)
      refine ret_i ?_
      rw [argsE, if_pos]
      rw [anyLarge, List.any_eq_true]
      exact ⟨x, List.mem_of_getElem? hx, by simp; omega⟩
    · refine Do.skip ?_
      simp [go_sem]
      apply k6_; clear k6_
      refine Do.region [1,2,3,7] true ?_
      simp [go_sem, hx]
      repeat (refine And.intro (by first | omega | (intros; omega) | grind) ?_)
      refine ⟨i + 1, St.le_of (by first | rfl | simp [keep]) (by first | rfl | simp [keep]), ⟨by omega, ?_⟩, by simp; omega⟩
      intro j hj y hy
      by_cases e : j = i
      · subst e; rw [hx] at hy; injection hy with hy; subst hy; omega
      · exact hz j (by omega) y hy
  · have hal : anyLarge l = false := by
      rw [anyLarge, List.any_eq_false]
      intro x hx
      obtain ⟨j, hj, e2⟩ := List.getElem_of_mem hx
      have := hz j (by omega) x (by rw [List.getElem?_eq_getElem hj, e2])
      simp; omega
    refine Do.exit ?_
    simp [go_sem]
    apply k2_; clear k2_
    refine Do.seqk fun _ k9_ => ?_
    refine Do.seqk fun _ k10_ => ?_
    refine Do.region [2,3,22] true ?_
    simp [go_sem]
    refine DoL.call true 602 rfl rfl rfl rfl (by first | exact trivial | omega | (simp; done) | (simp; omega)) (Known_does) rfl (by first | exact .inl rfl | exact .inr rfl) rfl ?_
    simp [go_sem]
    repeat (refine And.intro (by first | omega | (intros; omega) | grind) ?_)
    apply k10_; clear k10_
    refine Do.cond [2,3] rfl (fun h3 => ?_) (fun h3 => ?_) <;> simp [go_sem] at h3 ⊢
    · refine Do.seqk fun _ k11_ => ?_
      refine Do.region [6] true ?_
      simp [go_sem]
      apply k11_; clear k11_
      refine Do.ret ?_
      simp [endQ, rets, ret1, go_sem]
      repeat (refine And.intro (by first | omega | (intros; omega) | grind) ?_)
      refine ret_i ?_
      have : (decide (0 ≤ r) && decide (r ≤ 4) && !false) = false := by simp; omega
      rw [argsE, if_neg (by rw [hal]; exact Bool.false_ne_true), if_pos this]
    · refine Do.skip ?_
      simp [go_sem]
      apply k9_; clear k9_
      refine Do.seqk fun _ k12_ => ?_
      refine Do.region [6] true ?_
      simp [go_sem]
      repeat (refine And.intro (by first | omega | (intros; omega) | grind) ?_)
      refine DoL.call true 802 rfl rfl rfl rfl (by first | exact trivial | omega | (simp; done) | (simp; omega)) (Fmt_does) rfl (by first | exact .inl rfl | exact .inr rfl) rfl ?_
      simp [go_sem]
      refine DoL.call true 804 rfl rfl rfl rfl (by first | exact trivial | omega | (simp; done) | (simp; omega)) (Theirs_does hl) rfl (by first | exact .inl rfl | exact .inr rfl) rfl ?_
      simp [go_sem]
      refine DoL.call true 805 rfl rfl rfl rfl (by first | exact trivial | omega | (simp; done) | (simp; omega)) (RCheck_does hl ho) rfl (by first | exact .inl rfl | exact .inr rfl) rfl ?_
      simp [go_sem]
      apply k12_; clear k12_
      refine Do.ret ?_
      simp [endQ, rets, ret1, go_sem]
      repeat (refine And.intro (by first | omega | (intros; omega) | grind) ?_)
      refine ret_i ?_
      simp [argsE, hal, h3]
end Go.Proofs.YtbhokdhkfodpfaaDoor
/- The errors of Pair and Expand. No condition. -/
namespace Go.Proofs.YtbhokdhkfodpfaaDoor
set_option linter.unusedVariables false
set_option linter.unusedSimpArgs false
set_option maxHeartbeats 2000000
end Go.Proofs.YtbhokdhkfodpfaaDoor
/- The program awake: three sums. No condition. -/
namespace Go.Proofs.YtbhokdhkfodpfaaDoor
set_option linter.unusedVariables false
set_option linter.unusedSimpArgs false
set_option maxHeartbeats 4000000
set_option maxRecDepth 10000
theorem nat_word {n : Nat} (h0 : n ≠ 0) (h : n < 18446744073709551616) : nat n = [n] := by
  unfold nat; rw [dif_neg h0]; rw [show n / 18446744073709551616 = 0 by omega, nat_zero, Nat.mod_eq_of_lt h]
end Go.Proofs.YtbhokdhkfodpfaaDoor
