/- The exact sum of floats. No condition. The reference's sum is the program's. No condition. The reference's Total. No condition. What the laws of sums compare. No condition. The law SumTotals. No condition. The law SumAdds. No condition. The package variables of the program, as they are laid, and what a law's arguments are. No condition. Rounding to the nearest: how near, and when exactly. No condition. What a rounded sum drops is a float of the format. No condition. -/
import Derived.Test.YtdaecibpkhcllaaGreatDoorMj
import Derived.Test.YtdaecibpkhcllaaGreatDoorMi
import Derived.Test.YtdaecibpkhcllaaGreatDoorRows
import Derived.LaidMore
import Derived.LaidHandle
import Derived.Stop.Joined
import Derived.Carry
import Derived.OpenShut
/- The exact sum of floats. No condition. -/
namespace Go.Proofs.YtdaecibpkhcllaaGreatDoor
set_option linter.unusedVariables false
set_option linter.unusedSimpArgs false
variable {G : Gl}
set_option maxHeartbeats 4000000
set_option maxRecDepth 10000
/-- The least exponent so far, and whether there is one. -/
def lowStep (a : Int × Bool) (x : Flt) : Int × Bool := if x.k = 1 ∧ (a.2 = false ∨ x.e < a.1) then (x.e, true) else a
def lows (l : List Flt) : Int × Bool := l.foldl lowStep (0, false)
theorem lows_take {l : List Flt} {i : Nat} {x : Flt} (h : l[i]? = some x) : lows (l.take (i + 1)) = lowStep (lows (l.take i)) x := by
  unfold lows
  rw [List.take_add_one, h]; simp
theorem lows_le {l : List Flt} (i : Nat) : (∀ x ∈ l.take i, x.k = 1 → (lows (l.take i)).2 = true ∧ (lows (l.take i)).1 ≤ x.e) := by
  induction i with
  | zero => simp
  | succ i ih =>
    cases hx : l[i]? with
    | none =>
      have hl : l.length ≤ i := List.getElem?_eq_none_iff.1 hx
      rw [List.take_of_length_le (by omega)] at ih ⊢
      exact ih
    | some x =>
      rw [lows_take hx]
      intro y hy hk
      rw [List.take_add_one, hx] at hy
      simp only [Option.toList_some, List.mem_append, List.mem_singleton] at hy
      generalize lows (l.take i) = a at *
      unfold lowStep
      split
      · rename_i hc
        rcases hy with hy | rfl
        · have := ih y hy hk
          refine ⟨rfl, ?_⟩
          simp only []
          rcases hc.2 with h | h
          · rw [this.1] at h; cases h
          · omega
        · exact ⟨rfl, Int.le_refl _⟩
      · rename_i hc
        rcases hy with hy | rfl
        · exact ih y hy hk
        · by_cases h2 : a.2 = false
          · exact absurd ⟨hk, .inl h2⟩ hc
          · refine ⟨by simpa using h2, ?_⟩
            apply Classical.byContradiction
            intro h3
            exact hc ⟨hk, .inr (by omega)⟩
theorem lows_in {l : List Flt} {B : Int} (hB : 0 ≤ B) (h : ∀ x ∈ l, x.k = 1 → -B ≤ x.e ∧ x.e ≤ B) (i : Nat) : -B ≤ (lows (l.take i)).1 ∧ (lows (l.take i)).1 ≤ B := by
  induction i with
  | zero => simp [lows]; omega
  | succ i ih =>
    cases hx : l[i]? with
    | none =>
      have hl : l.length ≤ i := List.getElem?_eq_none_iff.1 hx
      rw [List.take_of_length_le (by omega)] at ih ⊢
      exact ih
    | some x =>
      rw [lows_take hx]
      have := h x (List.mem_of_getElem? hx)
      generalize lows (l.take i) = a at *
      unfold lowStep
      split
      · rename_i hc; exact this hc.1
      · exact ih
theorem svs_bound {z : Int} {M : Nat} : ∀ {l : List Flt}, (∀ x ∈ l, x.k = 1 → x.v * 2 ^ (x.e - z).toNat ≤ M) → (svs z l).natAbs ≤ l.length * M
  | [], _ => by simp [svs]
  | x :: l, h => by
    have ih := svs_bound (l := l) fun y hy => h y (List.mem_cons_of_mem _ hy)
    have hx := h x (by simp)
    simp only [svs, List.length_cons, Nat.add_mul, Nat.one_mul]
    split
    · rename_i hk
      have := hx hk
      unfold Nu.sv
      simp only []
      generalize x.v * 2 ^ (x.e - z).toNat = w at *
      generalize l.length * M = y at *
      split <;> omega
    · generalize l.length * M = y at *
      omega
theorem svs_take {z : Int} {l : List Flt} {i : Nat} {x : Flt} (h : l[i]? = some x) : svs z (l.take (i + 1)) = svs z (l.take i) + if x.k = 1 then (⟨x.n, x.v, x.e⟩ : Nu).sv z else 0 := by
  rw [List.take_add_one, h, svs_append]; simp [svs]
theorem len_bl {v k : Nat} (h : bl v ≤ k) : (nat v).length ≤ (k + 63) / 64 := by rw [natlen]; omega
/-- Bounds under which exact sums stay small. -/
def Tame (l : List Flt) : Prop := l.length < 1099511627776 ∧ ∀ x ∈ l, (x.k = 1 → -1048576 ≤ x.e ∧ x.e ≤ 1048576 ∧ bl x.v ≤ 1048576)
theorem Tame.term {l : List Flt} (h : Tame l) {z : Int} (hz : -1048576 ≤ z) {x : Flt} (hx : x ∈ l) (hk : x.k = 1) (hze : z ≤ x.e) : bl (x.v * 2 ^ (x.e - z).toNat) ≤ 3145728 := by
  obtain ⟨h1, h2, h3⟩ := h.2 x hx hk
  by_cases h0 : x.v = 0
  · rw [h0]; simp [bl_zero]
  · rw [bl_mul_pow _ _ (by omega)]; omega
theorem Tame.sum {l : List Flt} (h : Tame l) {z : Int} (hz : -1048576 ≤ z) (hl : ∀ x ∈ l, x.k = 1 → z ≤ x.e) (i : Nat) : bl (svs z (l.take i)).natAbs ≤ 3145768 := by
  obtain ⟨K, hK⟩ : ∃ K, K = 3145728 := ⟨_, rfl⟩
  have hb := @svs_bound z (2 ^ K) (l.take i) fun x hx hk => Nat.le_of_lt ((bl_lt _ _).1 (by rw [hK]; exact h.term hz (List.mem_of_mem_take hx) hk (hl x (List.mem_of_mem_take hx) hk)))
  have h1 : (l.take i).length < 2 ^ 40 := Nat.lt_of_le_of_lt (List.length_take_le' i l) h.1
  have h2 : bl (svs z (l.take i)).natAbs ≤ 40 + K := by
    rw [bl_lt]
    refine Nat.lt_of_le_of_lt hb ?_
    rw [Nat.pow_add]
    exact Nat.mul_lt_mul_of_pos_right h1 (Nat.pow_pos (by decide))
  omega
theorem Exactly_does {l : List Flt} (ht : Tame l) : Does Tryz.prog G 53 [.s false (l.map Flt.cs)] (.t [Iv (svs (lows l).1 l), .c (.i .i64 (lows l).1)]) := by
  have hlen := ht.1
  have hin := fun i => @lows_in l 1048576 (by omega) (fun x hx hk => ⟨(ht.2 x hx hk).1, (ht.2 x hx hk).2.1⟩) i
  have hz := hin l.length
  rw [List.take_length] at hz
  have hle := @lows_le l l.length
  rw [List.take_length] at hle
  have hle : ∀ x ∈ l, x.k = 1 → (lows l).1 ≤ x.e := fun x hx hk => (hle x hx hk).2
  have hsum := fun i => ht.sum hz.1 hle i
  have hF := @IFrom_does G 0 (by decide)
  refine Does.of (nt := 75) Tryz.func53 rfl rfl rfl (by simp) ?_
  simp only [argTm, PV.ext, Ce.ext]
  refine Do.seqk fun _ k1_ => ?_
  refine Do.region [0,2] true ?_
  simp [go_sem]
  apply k1_; clear k1_
  refine Do.seqk fun _ k2_ => ?_
  refine Do.region [0,2,4,5] true ?_
  simp [go_sem]
  apply k2_; clear k2_
  refine Do.seqk fun _ k3_ => ?_
  refine Do.seqk fun _ k4_ => ?_
  refine Do.region [0,2,4,5,6] true ?_
  simp [go_sem]
  apply k4_; clear k4_
  refine Do.block ?_
  refine Do.loopF [0,2,4,5,6] (fun (i : Nat) => [(4, .int .i64 (lows (l.take i)).1), (5, .v (.c (.b (lows (l.take i)).2))), (6, .int .i64 i)]) (fun (i : Nat) => []) (fun (i : Nat) => i ≤ l.length) (fun (i : Nat) => l.length - i) (0) (fun _ => by first | (simp [go_sem, mixS]; done) | (simp [go_sem, mixS]; rfl)) (St.le_of (by simp [keep, lows]) rfl) (Nat.zero_le _) ?_
  intro i hi
  refine Do.seqk fun _ k5_ => ?_
  refine Do.seqk fun _ k6_ => ?_
  refine Do.region [0,2,4,5,6,12] true ?_
  simp [go_sem]
  repeat (refine And.intro (by first | omega | (intros; omega) | (intros; exact And.intro (by assumption) (by omega)) | grind) ?_)
  apply k6_; clear k6_
  refine Do.cond [0,2,4,5,6] rfl (fun h => ?_) (fun h => ?_) <;> simp [go_sem] at h ⊢
  · obtain ⟨x, hx⟩ : ∃ x, l[i]? = some x := ⟨_, List.getElem?_eq_getElem h⟩
    have hs := lows_take hx
    have hi1 := hin i
    refine Do.skip ?_
    simp [go_sem]
    apply k5_; clear k5_
    refine Do.seqk fun _ k7_ => ?_
    refine Do.block ?_
    refine Do.seqk fun _ k8_ => ?_
    refine Do.region [0,2,4,5,6,33] true ?_
    simp [go_sem, hx]
    repeat (refine And.intro (by first | omega | (intros; omega) | (intros; exact And.intro (by assumption) (by omega)) | grind) ?_)
    apply k8_; clear k8_
    refine Do.cond [0,2,4,5,6] rfl (fun h1 => ?_) (fun h1 => ?_) <;> simp [go_sem, hx] at h1 ⊢
    · have hc : x.k = 1 ∧ ((lows (l.take i)).2 = false ∨ x.e < (lows (l.take i)).1) := by grind
      rw [lowStep, if_pos hc] at hs
      refine Do.region [0,2,4,5,6] true ?_
      simp [go_sem, hx]
      repeat (refine And.intro (by first | omega | (intros; omega) | (intros; exact And.intro (by assumption) (by omega)) | grind) ?_)
      apply k7_; clear k7_
      refine Do.region [0,2,4,5,6] true ?_
      simp [go_sem, hx]
      repeat (refine And.intro (by first | omega | (intros; omega) | (intros; exact And.intro (by assumption) (by omega)) | grind) ?_)
      refine ⟨i + 1, St.le_of (by simp [keep, hs]) rfl, by omega, by simp; omega⟩
    · have hc : ¬ (x.k = 1 ∧ ((lows (l.take i)).2 = false ∨ x.e < (lows (l.take i)).1)) := by grind
      rw [lowStep, if_neg hc] at hs
      refine Do.skip ?_
      simp [go_sem]
      apply k7_; clear k7_
      refine Do.region [0,2,4,5,6] true ?_
      simp [go_sem, hx]
      repeat (refine And.intro (by first | omega | (intros; omega) | (intros; exact And.intro (by assumption) (by omega)) | grind) ?_)
      refine ⟨i + 1, St.le_of (by simp [keep, hs]) rfl, by omega, by simp; omega⟩
  · obtain rfl : i = l.length := by omega
    rw [List.take_length]
    refine Do.exit ?_
    simp [go_sem]
    apply k3_; clear k3_
    refine Do.seqk fun _ k9_ => ?_
    refine Do.region [0,2,4,7] true ?_
    simp [go_sem]
    refine DoL.call true 701 rfl rfl rfl rfl (by first | exact trivial | omega | (simp; done) | (simp; omega)) (hF) rfl (by first | exact .inl rfl | exact .inr rfl) rfl ?_
    simp [go_sem]
    repeat (refine And.intro (by first | omega | (intros; omega) | (intros; exact And.intro (by assumption) (by omega)) | grind) ?_)
    apply k9_; clear k9_
    refine Do.seqk fun _ k10_ => ?_
    refine Do.seqk fun _ k11_ => ?_
    refine Do.region [0,2,4,7,8] true ?_
    simp [go_sem]
    apply k11_; clear k11_
    refine Do.block ?_
    refine Do.loopF [0,2,4,7,8] (fun (i : Nat) => [(8, .int .i64 i)]) (fun (i : Nat) => [(701, .box [.b (decide (svs (lows l).1 (l.take i) < 0)), .w false (nat (svs (lows l).1 (l.take i)).natAbs)])]) (fun (i : Nat) => i ≤ l.length) (fun (i : Nat) => l.length - i) (0) (fun _ => by first | (simp [go_sem, mixS]; done) | (simp [go_sem, mixS]; rfl)) (St.le_of (by simp [keep, svs]) (by simp [keep, svs])) (Nat.zero_le _) ?_
    intro i hi
    refine Do.seqk fun _ k12_ => ?_
    refine Do.seqk fun _ k13_ => ?_
    refine Do.region [0,2,4,7,8,43] true ?_
    simp [go_sem]
    repeat (refine And.intro (by first | omega | (intros; omega) | (intros; exact And.intro (by assumption) (by omega)) | grind) ?_)
    apply k13_; clear k13_
    refine Do.cond [0,2,4,7,8] rfl (fun h2 => ?_) (fun h2 => ?_) <;> simp [go_sem] at h2 ⊢
    · obtain ⟨x, hx⟩ : ∃ x, l[i]? = some x := ⟨_, List.getElem?_eq_getElem h2⟩
      have hxm := List.mem_of_getElem? hx
      have hs := @svs_take (lows l).1 l i x hx
      refine Do.skip ?_
      simp [go_sem]
      apply k12_; clear k12_
      refine Do.seqk fun _ k14_ => ?_
      refine Do.block ?_
      refine Do.seqk fun _ k15_ => ?_
      refine Do.region [0,2,4,7,8,51] true ?_
      simp [go_sem, hx]
      repeat (refine And.intro (by first | omega | (intros; omega) | (intros; exact And.intro (by assumption) (by omega)) | grind) ?_)
      apply k15_; clear k15_
      refine Do.cond [0,2,4,7,8] rfl (fun h3 => ?_) (fun h3 => ?_) <;> simp [go_sem, hx] at h3 ⊢
      · have hle2 := hle x hxm h3
        have hxt := ht.2 x hxm h3
        have hterm := ht.term hz.1 hxm h3 hle2
        obtain ⟨d, hd⟩ : ∃ d : Nat, x.e - (lows l).1 = d := ⟨(x.e - (lows l).1).toNat, by omega⟩
        rw [show (x.e - (lows l).1).toNat = d by omega] at hterm
        have hsm := hsum i
        have hL := @RLeft_does G (nat x.v) d (by have := len_bl hxt.2.2; omega) (nat_ws _) (by omega)
        rw [val_nat] at hL
        have hM := @IMake11_does G x.n (nat (x.v * 2 ^ d)) (by have := len_bl hterm; omega) (nat_ws _)
        rw [val_nat] at hM
        have hA := @IAdd_does G (decide (svs (lows l).1 (l.take i) < 0)) (decide (sgn x.n (x.v * 2 ^ d) < 0)) (nat (svs (lows l).1 (l.take i)).natAbs) (nat (sgn x.n (x.v * 2 ^ d)).natAbs) (by have := len_bl hsm; omega) (nat_ws _) (by rw [sgn_abs]; have := len_bl hterm; omega) (nat_ws _)
        rw [val_nat, val_nat, sgn_of, sgn_of] at hA
        rw [if_pos h3, show Nu.sv (lows l).1 ⟨x.n, x.v, x.e⟩ = sgn x.n (x.v * 2 ^ d) by rw [Nu.sv, sgn]; simp only []; rw [show (x.e - (lows l).1).toNat = d by omega]] at hs
        rw [← hs] at hA
        refine Do.draw [0,2,4,7,8] true (by kernel_rfl) ?_
        simp [go_sem, hx, hd]
        repeat (refine And.intro (by first | omega | (intros; omega) | (intros; exact And.intro (by assumption) (by omega)) | kernel_rfl | grind) ?_)
        refine DoLD.call true 1219 rfl rfl rfl rfl (by first | exact trivial | omega | (simp; done) | (simp; omega)) (hL) rfl (by first | exact .inl rfl | exact .inr rfl) rfl ?_
        simp [go_sem, hx, hd]
        refine DoLD.call true 1220 rfl rfl rfl rfl (by first | exact trivial | omega | (simp; done) | (simp; omega)) (hM) rfl (by first | exact .inl rfl | exact .inr rfl) rfl ?_
        simp [go_sem, hx, hd]
        refine DoLD.call true 1221 rfl rfl rfl rfl (by first | exact trivial | omega | (simp; done) | (simp; omega)) (hA) rfl (by first | exact .inl rfl | exact .inr rfl) rfl ?_
        simp [go_sem, hx, hd]
        repeat (refine And.intro (by first | omega | (intros; omega) | (intros; exact And.intro (by assumption) (by omega)) | kernel_rfl | grind) ?_)
        try (refine And.intro (by kernel_rfl) ?_)
        apply k14_; clear k14_
        refine Do.region [0,2,4,7,8] true ?_
        simp [go_sem, hx, hd]
        repeat (refine And.intro (by first | omega | (intros; omega) | (intros; exact And.intro (by assumption) (by omega)) | grind) ?_)
        refine ⟨i + 1, St.le_of rfl (by simp [keep]), by omega, by simp; omega⟩
      · rw [if_neg h3] at hs
        refine Do.skip ?_
        simp [go_sem]
        apply k14_; clear k14_
        refine Do.region [0,2,4,7,8] true ?_
        simp [go_sem, hx]
        repeat (refine And.intro (by first | omega | (intros; omega) | (intros; exact And.intro (by assumption) (by omega)) | grind) ?_)
        refine ⟨i + 1, St.le_of (by simp [keep]) (by simp [keep, hs]), by omega, by simp; omega⟩
    · refine Do.exit ?_
      simp [go_sem]
      apply k10_; clear k10_
      refine Do.seqk fun _ k16_ => ?_
      refine Do.region [2,3] true ?_
      simp [go_sem]
      repeat (refine And.intro (by first | omega | (intros; omega) | (intros; exact And.intro (by assumption) (by omega)) | grind) ?_)
      apply k16_; clear k16_
      refine Do.ret ?_
      simp [endQ, rets, ret1, go_sem]
      repeat (refine And.intro (by first | omega | (intros; omega) | (intros; exact And.intro (by assumption) (by omega)) | grind) ?_)
      rw [List.take_of_length_le (by omega)]
      exact TLe.refl _
end Go.Proofs.YtdaecibpkhcllaaGreatDoor
/- The reference's sum is the program's. No condition. -/
namespace Go.Proofs.YtdaecibpkhcllaaGreatDoor
set_option linter.unusedVariables false
set_option linter.unusedSimpArgs false
variable {G : Gl}
set_option maxHeartbeats 4000000
set_option maxRecDepth 10000
theorem cnt_pos (k : Int) (n : Bool) (l : List Flt) : (0 < cnt k n l) = (l.any (fun x => x.k == k && x.n == n) = true) := by
  induction l with
  | nil => simp [cnt]
  | cons x l ih =>
    simp only [cnt, List.any_cons, Bool.or_eq_true, ← ih]
    by_cases h : x.k = k ∧ x.n = n
    · simp [h]; omega
    · rw [if_neg h]
      have : (x.k == k && x.n == n) = false := by simpa using h
      simp [this]
theorem cnt_all (k : Int) (n : Bool) (l : List Flt) : (cnt k n l = l.length) = (l.all (fun x => x.k == k && x.n == n) = true) := by
  apply propext
  induction l with
  | nil => simp [cnt]
  | cons x l ih =>
    have hle := cnt_le k n l
    rw [List.all_cons, Bool.and_eq_true, ← ih, cnt, List.length_cons]
    by_cases h : x.k = k ∧ x.n = n
    · rw [if_pos h]
      have : (x.k == k && x.n == n) = true := by simpa using h
      exact ⟨fun g => ⟨this, by omega⟩, fun g => by omega⟩
    · rw [if_neg h]
      have : ¬ (x.k == k && x.n == n) = true := by simpa using h
      exact ⟨fun g => by omega, fun g => absurd g.1 this⟩
theorem svs_low {z z' : Int} (hz : z' ≤ z) : ∀ {l : List Flt}, (∀ x ∈ l, x.k = 1 → z ≤ x.e) → svs z' l = svs z l * 2 ^ (z - z').toNat
  | [], _ => by simp [svs]
  | x :: l, h => by
    have ih := svs_low hz (l := l) fun y hy => h y (List.mem_cons_of_mem _ hy)
    have hx := h x (by simp)
    simp only [svs, ih, Int.add_mul]
    congr 1
    split
    · rename_i hk
      unfold Nu.sv
      simp only []
      rw [pow_split hz (hx hk), ← Nat.mul_assoc]
      generalize x.v * 2 ^ (x.e - z).toNat = w
      split <;> simp [Int.natCast_mul, Int.neg_mul, Int.natCast_pow]
    · simp
/-- Kinds as they are; no NaN with a sign. -/
def Kinds (L : List Flt) : Prop := ∀ x ∈ L, (x.k = 0 ∨ x.k = 1 ∨ x.k = 2 ∨ x.k = 3) ∧ (x.k = 3 → x.n = false)
/-- The sum by its parts. -/
theorem float_parts {f p r : Int} {L : List Flt} (ht : Tame L) (hk : Kinds L) : (gatherP L).float f p r =
    if 0 < cnt 3 false L then (⟨3, false, 0, 0⟩, 0)
    else if 0 < cnt 2 true L ∧ 0 < cnt 2 false L then (⟨3, false, 0, 0⟩, 16)
    else if 0 < cnt 2 true L ∨ 0 < cnt 2 false L then (⟨2, decide (0 < cnt 2 true L), 0, 0⟩, 0)
    else if svs (lows L).1 L ≠ 0 then roundP f p r (decide (svs (lows L).1 L < 0)) (svs (lows L).1 L).natAbs (lows L).1 false
    else if 0 < cnt 0 true L ∧ cnt 0 true L = L.length then (⟨0, true, 0, 0⟩, 0) else if cnt 0 false L = L.length then (⟨0, false, 0, 0⟩, 0) else (⟨0, r == 4, 0, 0⟩, 0) := by
  have hlow := @lows_le L L.length
  rw [List.take_length] at hlow
  obtain ⟨z, hz⟩ : ∃ z : Int, z = if (lows L).1 < 0 then (lows L).1 else 0 := ⟨_, rfl⟩
  have hz0 : z ≤ 0 := by split at hz <;> omega
  have hz1 : z ≤ (lows L).1 := by split at hz <;> omega
  have hG := gather_is (z := z) hz0 (l := L) fun x hx hk => by have := (hlow x hx hk).2; omega
  have hsv := svs_low hz1 (l := L) fun x hx hk => (hlow x hx hk).2
  have e3 : (gatherP L).nan = decide (0 < cnt 3 false L) := by
    rw [hG.nan, Bool.eq_iff_iff, decide_eq_true_eq, cnt_pos, List.any_eq_true, List.any_eq_true]
    constructor
    · rintro ⟨x, hx, h⟩
      have h3 : x.k = 3 := by simpa using h
      exact ⟨x, hx, by simp [h3, (hk x hx).2 h3]⟩
    · rintro ⟨x, hx, h⟩
      simp at h
      exact ⟨x, hx, by simp [h.1]⟩
  have ep : (gatherP L).plus = decide (0 < cnt 2 false L) := by
    rw [hG.plus, Bool.eq_iff_iff, decide_eq_true_eq, cnt_pos]; simp
  have em : (gatherP L).minus = decide (0 < cnt 2 true L) := by
    rw [hG.minus, Bool.eq_iff_iff, decide_eq_true_eq, cnt_pos]; simp
  unfold Ga.float
  rw [e3, hG.inv, ep, em]
  by_cases c3 : 0 < cnt 3 false L
  · simp [c3]
  · by_cases cp : 0 < cnt 2 false L
    · by_cases cm : 0 < cnt 2 true L <;> simp [c3, cp, cm]
    · by_cases cm : 0 < cnt 2 true L
      · simp [c3, cp, cm]
      · simp only [c3, cp, cm, decide_false, Bool.false_and, Bool.or_self, Bool.false_or, if_false, Bool.false_eq_true, and_self, or_self, false_and]
        have hb : (gatherP L).sum.sv z = Nu.sv z ⟨decide (svs (lows L).1 L < 0), (svs (lows L).1 L).natAbs, (lows L).1⟩ := by
          rw [hG.sum, hsv]
          unfold Nu.sv
          simp only []
          generalize svs (lows L).1 L = S
          generalize ((lows L).1 - z).toNat = d
          by_cases hS : S < 0
          · rw [if_pos (by simpa using hS), Int.natCast_mul, ← Int.neg_mul, show -((S.natAbs : Nat) : Int) = S by omega, Int.natCast_pow]; rfl
          · rw [if_neg (by simpa using hS), Int.natCast_mul, show ((S.natAbs : Nat) : Int) = S by omega, Int.natCast_pow]; rfl
        rw [Nu.round_sv hG.low hz1 hb]
        unfold Nu.round
        simp only []
        by_cases hS : svs (lows L).1 L = 0
        · rw [if_pos (by omega), if_neg (by simp [hS])]
          rw [hG.seen, hG.some_, hG.other]
          have n2 : ∀ x ∈ L, x.k = 0 ∨ x.k = 1 := fun x hx => by
            rcases (hk x hx).1 with h | h | h | h
            · exact .inl h
            · exact .inr h
            · exfalso
              cases hn : x.n
              · exact cp (by rw [cnt_pos, List.any_eq_true]; exact ⟨x, hx, by simp [h, hn]⟩)
              · exact cm (by rw [cnt_pos, List.any_eq_true]; exact ⟨x, hx, by simp [h, hn]⟩)
            · exfalso
              exact c3 (by rw [cnt_pos, List.any_eq_true]; exact ⟨x, hx, by simp [h, (hk x hx).2 h]⟩)
          clear hk hG hb hsv hlow e3 ep em
          cases L with
          | nil => simp [cnt]
          | cons y l =>
            by_cases h1 : cnt 0 true (y :: l) = (y :: l).length
            · rw [if_pos ⟨by rw [h1]; simp, h1⟩]
              rw [cnt_all, List.all_eq_true] at h1
              have e1 : ((y :: l).any fun x => x.k == 1 || x.k != 2 && x.k != 3 && !x.n) = false := by
                rw [List.any_eq_false]; intro x hx; have := h1 x hx; simp at this; simp [this.1, this.2]
              have e2 : ((y :: l).any fun x => x.k == 1 || x.k != 2 && x.k != 3 && x.n) = true := by
                rw [List.any_eq_true]; have := h1 y (by simp); simp at this; exact ⟨y, by simp, by simp [this.1, this.2]⟩
              rw [e1, e2]; simp
            · rw [if_neg (fun h => h1 h.2)]
              by_cases h2 : cnt 0 false (y :: l) = (y :: l).length
              · rw [if_pos h2]
                rw [cnt_all, List.all_eq_true] at h2
                have e2 : ((y :: l).any fun x => x.k == 1 || x.k != 2 && x.k != 3 && x.n) = false := by
                  rw [List.any_eq_false]; intro x hx; have := h2 x hx; simp at this; simp [this.1, this.2]
                rw [e2]; simp
              · rw [if_neg h2]
                rw [cnt_all, List.all_eq_true] at h1 h2
                have e1 : ((y :: l).any fun x => x.k == 1 || x.k != 2 && x.k != 3 && !x.n) = true := by
                  apply Classical.byContradiction
                  intro hn
                  refine h1 fun x hx => ?_
                  rw [Bool.not_eq_true, List.any_eq_false] at hn
                  have := hn x hx
                  rcases n2 x hx with h | h <;> simp [h] at this ⊢
                  exact this
                have e2 : ((y :: l).any fun x => x.k == 1 || x.k != 2 && x.k != 3 && x.n) = true := by
                  apply Classical.byContradiction
                  intro hn
                  refine h2 fun x hx => ?_
                  rw [Bool.not_eq_true, List.any_eq_false] at hn
                  have := hn x hx
                  rcases n2 x hx with h | h <;> simp [h] at this ⊢
                  exact this
                rw [e1, e2]; simp
        · rw [if_neg (by omega), if_pos hS]
end Go.Proofs.YtdaecibpkhcllaaGreatDoor
/- The reference's Total. No condition. -/
namespace Go.Proofs.YtdaecibpkhcllaaGreatDoor
set_option linter.unusedVariables false
set_option linter.unusedSimpArgs false
variable {G : Gl}
set_option maxHeartbeats 4000000
set_option maxRecDepth 10000
theorem RTotal_new {f p r : Int} (hf : fmOk f p = true) (hr : 0 ≤ r) (hr' : r ≤ 4) {l : List Fla} (hl : l.length < 1099511627776) (ho : ∀ x ∈ l, x.m.length ≤ 1073741824 ∧ Ws x.m ∧ Md x.e) {L : List Flt} (hL : (l.map fun x => rcanon x.flt) = L) (ht : Tame L) (hk : Kinds L) : Does Tryz.prog G 16 [Fm f p, .c (.i .i64 r), Rows l] (.t [((gatherP L).float f p r).1.pw, .c (.i .i64 ((gatherP L).float f p r).2)]) := by
  have hC := @canonical17_does G l hl ho
  rw [hL] at hC
  have hn := fun k => @count_does G L k ht.1
  have hE := @Exactly_does G L ht
  have hz := float_parts (f := f) (p := p) (r := r) ht hk
  have hle3 := cnt_le 3 false L
  have hle2 := cnt_le 2 true L
  have hle1 := cnt_le 2 false L
  have hlen := ht.1
  generalize (gatherP L).float f p r = z at *
  refine Does.of (nt := 88) Tryz.func16 rfl rfl rfl (by simp) ?_
  simp only [argTm, PV.ext, Ce.ext]
  refine Do.seqk fun _ k1_ => ?_
  refine Do.region [1,2,3,6] true ?_
  simp [go_sem]
  apply k1_; clear k1_
  refine Do.seqk fun _ k2_ => ?_
  refine Do.region [1,2,3,6] true ?_
  simp [go_sem]
  refine DoL.call true 102 rfl rfl rfl rfl (by first | exact trivial | omega | (simp; done) | (simp; omega)) (hC) rfl (by first | exact .inl rfl | exact .inr rfl) rfl ?_
  simp [go_sem]
  apply k2_; clear k2_
  refine Do.seqk fun _ k3_ => ?_
  refine Do.region [1,2,3,6,9] true ?_
  simp [go_sem]
  refine DoL.call true 202 rfl rfl rfl rfl (by first | exact trivial | omega | (simp; done) | (simp; omega)) (hn 3) rfl (by first | exact .inl rfl | exact .inr rfl) rfl ?_
  simp [go_sem]
  apply k3_; clear k3_
  refine Do.seqk fun _ k4_ => ?_
  refine Do.region [1,2,3,6,9,10,11] true ?_
  simp [go_sem]
  refine DoL.call true 302 rfl rfl rfl rfl (by first | exact trivial | omega | (simp; done) | (simp; omega)) (hn 2) rfl (by first | exact .inl rfl | exact .inr rfl) rfl ?_
  simp [go_sem]
  apply k4_; clear k4_
  refine Do.seqk fun _ k5_ => ?_
  refine Do.block ?_
  refine Do.seqk fun _ k6_ => ?_
  refine Do.region [1,2,3,6,10,11,28] true ?_
  simp [go_sem]
  apply k6_; clear k6_
  refine Do.cond [1,2,3,6,10,11] rfl (fun h1 => ?_) (fun h1 => ?_) <;> simp [go_sem] at h1 ⊢
  · refine Do.seqk fun _ k7_ => ?_
    refine Do.region [6,7] true ?_
    simp [go_sem]
    repeat (refine And.intro (by first | omega | (intros; omega) | (intros; exact And.intro (by assumption) (by omega)) | grind) ?_)
    apply k7_; clear k7_
    refine Do.ret ?_
    simp [endQ, rets, ret1, go_sem]
    repeat (refine And.intro (by first | omega | (intros; omega) | (intros; exact And.intro (by assumption) (by omega)) | grind) ?_)
    rw [hz, if_pos (by omega)]
    exact TLe.t (.cons (PLe.flw (ret_zw rfl)) (.cons (PLe.refl _) .nil))
  · refine Do.seqk fun _ k8_ => ?_
    refine Do.region [1,2,3,6,10,11,32] true ?_
    simp [go_sem]
    apply k8_; clear k8_
    refine Do.cond [1,2,3,6,10,11] rfl (fun h2 => ?_) (fun h2 => ?_) <;> simp [go_sem] at h2 ⊢
    · refine Do.seqk fun _ k9_ => ?_
      refine Do.region [6,7] true ?_
      simp [go_sem]
      repeat (refine And.intro (by first | omega | (intros; omega) | (intros; exact And.intro (by assumption) (by omega)) | grind) ?_)
      apply k9_; clear k9_
      refine Do.ret ?_
      simp [endQ, rets, ret1, go_sem]
      repeat (refine And.intro (by first | omega | (intros; omega) | (intros; exact And.intro (by assumption) (by omega)) | grind) ?_)
      rw [hz, if_neg (by omega), if_pos (by omega)]
      exact TLe.t (.cons (PLe.flw (ret_zw rfl)) (.cons (PLe.refl _) .nil))
    · refine Do.seqk fun _ k10_ => ?_
      refine Do.region [1,2,3,6,10,40] true ?_
      simp [go_sem]
      repeat (refine And.intro (by first | omega | (intros; omega) | (intros; exact And.intro (by assumption) (by omega)) | grind) ?_)
      apply k10_; clear k10_
      refine Do.cond [1,2,3,6,10] rfl (fun h3 => ?_) (fun h3 => ?_) <;> simp [go_sem] at h3 ⊢
      · refine Do.seqk fun _ k11_ => ?_
        refine Do.region [6,7] true ?_
        simp [go_sem]
        repeat (refine And.intro (by first | omega | (intros; omega) | (intros; exact And.intro (by assumption) (by omega)) | grind) ?_)
        apply k11_; clear k11_
        refine Do.ret ?_
        simp [endQ, rets, ret1, go_sem]
        repeat (refine And.intro (by first | omega | (intros; omega) | (intros; exact And.intro (by assumption) (by omega)) | grind) ?_)
        rw [hz, if_neg (by omega), if_neg (by omega), if_pos (by omega)]
        exact TLe.t (.cons (PLe.flw (ret_zw rfl)) (.cons (PLe.refl _) .nil))
      · rw [if_neg (by omega), if_neg (by omega), if_neg (by omega)] at hz
        have hin := @lows_in L 1048576 (by omega) (fun x hx hk => ⟨(ht.2 x hx hk).1, (ht.2 x hx hk).2.1⟩) L.length
        have hlw := @lows_le L L.length
        rw [List.take_length] at hin hlw
        have hsm := ht.sum hin.1 (fun x hx hk => (hlw x hx hk).2) L.length
        rw [List.take_length] at hsm
        have hI := @ISign_does G (decide (svs (lows L).1 L < 0)) (nat (svs (lows L).1 L).natAbs) (by have := len_bl hsm; omega) (nat_ws _)
        rw [val_nat, sgn_of] at hI
        have hSc := @Scaled_does G (decide (svs (lows L).1 L < 0)) (nat (svs (lows L).1 L).natAbs) (lows L).1 (by have := len_bl hsm; omega) (nat_ws _)
        rw [val_nat, sgn_of] at hSc
        have hRd := fun hv => @Round_new G f p r hf hr hr' (decide (svs (lows L).1 L < 0)) (svs (lows L).1 L).natAbs (lows L).1 hv (by omega) (by omega)
        generalize svs (lows L).1 L = S at *
        generalize (lows L).1 = w at *
        refine Do.skip ?_
        simp [go_sem]
        apply k5_; clear k5_
        refine Do.seqk fun _ k12_ => ?_
        refine Do.region [1,2,3,6,12,13] true ?_
        simp [go_sem]
        refine DoL.call true 1002 rfl rfl rfl rfl (by first | exact trivial | omega | (simp; done) | (simp; omega)) (hE) rfl (by first | exact .inl rfl | exact .inr rfl) rfl ?_
        simp [go_sem]
        repeat (refine And.intro (by first | omega | (intros; omega) | (intros; exact And.intro (by assumption) (by omega)) | grind) ?_)
        apply k12_; clear k12_
        refine Do.seqk fun _ k13_ => ?_
        refine Do.seqk fun _ k14_ => ?_
        refine Do.region [1,2,3,6,12,13,55] true ?_
        simp [go_sem]
        repeat (refine And.intro (by first | omega | (intros; omega) | (intros; exact And.intro (by assumption) (by omega)) | grind) ?_)
        refine DoL.call true 1102 rfl rfl rfl rfl (by first | exact trivial | omega | (simp; done) | (simp; omega)) (hI) rfl (by first | exact .inl rfl | exact .inr rfl) rfl ?_
        simp [go_sem]
        apply k14_; clear k14_
        refine Do.cond [1,2,3,6,12,13] rfl (fun h4 => ?_) (fun h4 => ?_) <;> simp [go_sem] at h4 ⊢
        · refine Do.seqk fun _ k15_ => ?_
          refine Do.draw [6,7] true (by kernel_rfl) ?_
          simp [go_sem]
          repeat (refine And.intro (by first | omega | (intros; omega) | (intros; exact And.intro (by assumption) (by omega)) | kernel_rfl | grind) ?_)
          refine DoLD.call true 1205 rfl rfl rfl rfl (by first | exact trivial | omega | (simp; done) | (simp; omega)) (hSc) rfl (by first | exact .inl rfl | exact .inr rfl) rfl ?_
          simp [go_sem]
          refine DoLD.call true 1206 rfl rfl rfl rfl (by first | exact trivial | omega | (simp; done) | (simp; omega)) (hRd (by omega)) rfl (by first | exact .inl rfl | exact .inr rfl) rfl ?_
          simp [go_sem]
          repeat (refine And.intro (by first | omega | (intros; omega) | (intros; exact And.intro (by assumption) (by omega)) | kernel_rfl | grind) ?_)
          try (refine And.intro (by kernel_rfl) ?_)
          apply k15_; clear k15_
          refine Do.ret ?_
          simp [endQ, rets, ret1, go_sem]
          repeat (refine And.intro (by first | omega | (intros; omega) | (intros; exact And.intro (by assumption) (by omega)) | grind) ?_)
          rw [hz, if_pos (by omega)]
          exact TLe.refl _
        · rw [if_neg (by omega)] at hz
          refine Do.skip ?_
          simp [go_sem]
          apply k13_; clear k13_
          refine Do.seqk fun _ k16_ => ?_
          refine Do.region [1,2,6,14,15] true ?_
          simp [go_sem]
          refine DoL.call true 1302 rfl rfl rfl rfl (by first | exact trivial | omega | (simp; done) | (simp; omega)) (hn 0) rfl (by first | exact .inl rfl | exact .inr rfl) rfl ?_
          simp [go_sem]
          apply k16_; clear k16_
          refine Do.seqk fun _ k17_ => ?_
          refine Do.block ?_
          refine Do.seqk fun _ k18_ => ?_
          refine Do.region [1,2,6,15,69] true ?_
          simp [go_sem]
          repeat (refine And.intro (by first | omega | (intros; omega) | (intros; exact And.intro (by assumption) (by omega)) | grind) ?_)
          apply k18_; clear k18_
          refine Do.cond [1,2,6,15] rfl (fun h5 => ?_) (fun h5 => ?_) <;> simp [go_sem] at h5 ⊢
          · refine Do.seqk fun _ k19_ => ?_
            refine Do.region [6,7] true ?_
            simp [go_sem]
            repeat (refine And.intro (by first | omega | (intros; omega) | (intros; exact And.intro (by assumption) (by omega)) | grind) ?_)
            apply k19_; clear k19_
            refine Do.ret ?_
            simp [endQ, rets, ret1, go_sem]
            repeat (refine And.intro (by first | omega | (intros; omega) | (intros; exact And.intro (by assumption) (by omega)) | grind) ?_)
            rw [hz, if_pos (by omega)]
            exact TLe.t (.cons (PLe.flw (ret_zw rfl)) (.cons (PLe.refl _) .nil))
          · refine Do.seqk fun _ k20_ => ?_
            refine Do.region [1,6,79] true ?_
            simp [go_sem]
            repeat (refine And.intro (by first | omega | (intros; omega) | (intros; exact And.intro (by assumption) (by omega)) | grind) ?_)
            apply k20_; clear k20_
            refine Do.cond [1,6] rfl (fun h6 => ?_) (fun h6 => ?_) <;> simp [go_sem] at h6 ⊢
            · refine Do.seqk fun _ k21_ => ?_
              refine Do.region [6,7] true ?_
              simp [go_sem]
              repeat (refine And.intro (by first | omega | (intros; omega) | (intros; exact And.intro (by assumption) (by omega)) | grind) ?_)
              apply k21_; clear k21_
              refine Do.ret ?_
              simp [endQ, rets, ret1, go_sem]
              repeat (refine And.intro (by first | omega | (intros; omega) | (intros; exact And.intro (by assumption) (by omega)) | grind) ?_)
              rw [hz, if_neg (by omega), if_pos (by omega)]
              exact TLe.t (.cons (PLe.flw (ret_zw rfl)) (.cons (PLe.refl _) .nil))
            · refine Do.skip ?_
              simp [go_sem]
              apply k17_; clear k17_
              refine Do.seqk fun _ k22_ => ?_
              refine Do.region [6,7] true ?_
              simp [go_sem]
              repeat (refine And.intro (by first | omega | (intros; omega) | (intros; exact And.intro (by assumption) (by omega)) | grind) ?_)
              apply k22_; clear k22_
              refine Do.ret ?_
              simp [endQ, rets, ret1, go_sem]
              repeat (refine And.intro (by first | omega | (intros; omega) | (intros; exact And.intro (by assumption) (by omega)) | grind) ?_)
              rw [hz, if_neg (by omega), if_neg (by omega)]
              exact TLe.t (.cons (PLe.flw (ret_zw rfl)) (.cons (PLe.refl _) .nil))
end Go.Proofs.YtdaecibpkhcllaaGreatDoor
/- What the laws of sums compare. No condition. -/
namespace Go.Proofs.YtdaecibpkhcllaaGreatDoor
set_option linter.unusedVariables false
set_option linter.unusedSimpArgs false
variable {G : Gl}
set_option maxHeartbeats 4000000
set_option maxRecDepth 10000
/-- Arguments that say more. -/
theorem Does.weak {P : Program} {G : Gl} {f : FuncId} {args args' : List PV} {ret : TV} (h : Does P G f args ret) (hle : All2 PLe args' args) : Does P G f args' ret := by
  intro W ok vals hok hgl hargs
  refine h W ok vals hok hgl ?_
  clear h
  induction hle generalizing vals with
  | nil => exact hargs
  | cons h _ ih =>
    obtain ⟨v, vs, rfl, g1, g2⟩ := hargs.cons_iff
    exact .cons (h _ _ g1) (ih vs g2)
theorem Fits_none {k e : Int} {n : Bool} {m : List Nat} {fl w : Int} (hk : k = 0 ∧ n = false ∧ e = 0 ∧ m = []) (hw : w ≠ 0) (er : Int) : Does Tryz.prog Gv 15 [Fl k n e m, .c (.i .i64 0), .c (.i .i64 er), .a [.i .i64 0, .b false, .i .i64 0, .z], .c (.i .i64 fl), .c (.i .i64 w)] (.v (.c (.b (er == w)))) := by
  obtain ⟨rfl, rfl, rfl, rfl⟩ := hk
  have h := @Fits_does Gv ⟨0, false, 0, []⟩ ⟨0, false, 0, []⟩ 0 er fl w (by simp) (by simp [Ws]) (by simp) (by simp [Ws]) (by constructor <;> simp)
  rw [show fitsP ⟨0, false, 0, []⟩ 0 er ⟨0, false, 0, []⟩ fl w = (er == w) by simp [fitsP, hw]] at h
  exact h.weak (.cons (PLe.refl _) (.cons (PLe.refl _) (.cons (PLe.refl _) (.cons (PLe.flt (PLe.z false)) (.cons (PLe.refl _) (.cons (PLe.refl _) .nil))))))
theorem rcanon_idem (x : Flt) : rcanon (rcanon x) = rcanon x := by
  unfold rcanon
  by_cases h : x.k = 1
  · have : tz (x.v / 2 ^ tz x.v) = 0 := by
      by_cases h0 : x.v = 0
      · simp [h0, tz_zero]
      · exact tz_rest (by omega)
    simp [h, this]
  · simp [h]
theorem mkP_fix {n : Bool} {q : Nat} {u : Int} : rcanon (mkP n q u) = mkP n q u := by
  unfold mkP
  split
  · rfl
  · have h : rcanon ⟨1, n, u, q⟩ = ⟨1, n, u + tz q, q / 2 ^ tz q⟩ := by simp [rcanon]
    rw [← h]
    exact rcanon_idem _
theorem roundP_fix {f p r : Int} (hf : fmOk f p = true) {n : Bool} {v : Nat} {e : Int} {st : Bool} : rcanon (roundP f p r n v e st).1 = (roundP f p r n v e st).1 := by
  obtain ⟨b1, b2, b3, b4⟩ := fmOk_spec hf
  unfold roundP
  simp only []
  split
  · split
    · obtain ⟨m, hm⟩ : ∃ m, p.toNat = m + 1 := ⟨p.toNat - 1, by omega⟩
      have h2 : 2 ^ p.toNat = 2 * 2 ^ m := by rw [hm, Nat.pow_succ']
      have h3 : 0 < 2 ^ m := Nat.pow_pos (by decide)
      have h4 : tz (2 ^ p.toNat - 1) = 0 := tz_odd1 (by omega)
      simp [rcanon, h4]
    · rfl
  · exact mkP_fix
theorem float_fix {f p r : Int} (hf : fmOk f p = true) {g : Ga} : rcanon (g.float f p r).1 = (g.float f p r).1 := by
  unfold Ga.float
  split
  · rfl
  · split
    · rfl
    · split
      · rfl
      · unfold Nu.round
        split
        · rfl
        · exact roundP_fix hf
theorem totalP_fix {f p r : Int} {l : List Fla} : rcanon (totalP f p r l).1 = (totalP f p r l).1 := by
  unfold totalP
  split
  · rename_i h
    exact float_fix (argsE_zero h).2.2.2.2.1
  · rfl
abbrev Flt.fla (x : Flt) : Fla := ⟨x.k, x.n, x.e, nat x.v⟩
theorem Flt.fla_flt (x : Flt) : x.fla.flt = x := by simp [Fla.flt, val_nat]
/-- A result against the reference's. -/
theorem Fits_same {x : Flt} {k : Int} (hx : Fine x) (h : rcanon x = x) : Does Tryz.prog G 15 [x.pv, .c (.i .i64 k), .c (.i .i64 0), x.pv, .c (.i .i64 k), .c (.i .i64 0)] (.v (.c (.b true))) := by
  have hl : (nat x.v).length ≤ 1073741824 := by have := nat_len_bl x.v; have := hx.v; omega
  have := @Fits_does G x.fla x.fla k 0 k 0 hl (nat_ws _) hl (nat_ws _) (good_md hx.can)
  rw [show fitsP x.fla k 0 x.fla k 0 = true by rw [fitsP, if_pos rfl, Flt.fla_flt, h]; simp [isP]] at this
  exact this
theorem held_rcanon {f p : Int} {x : Flt} (h : (holdsP f p x).2 = true) : rcanon x = (holdsP f p x).1 ∧ (canon x).2 = true := by
  have hg : (canon x).2 = true := by
    have := @holds_good f p x
    rw [h, Bool.and_eq_true] at this
    exact this.1
  refine ⟨?_, hg⟩
  rw [rcanon_good hg]
  unfold holdsP
  split <;> rfl
/-- Floats of the reference: right ones. -/
structure Rt (x : Fla) : Prop where
  can : (canon x.flt).2 = true
  ws : Ws x.m
  len : x.m.length ≤ 4096
theorem Rt.md {x : Fla} (h : Rt x) : Md x.e := good_md h.can
theorem canon_one {x : Flt} (h : (canon x).2 = true) (hk : x.k = 1) : -1048576 ≤ x.e ∧ x.e + tz x.v ≤ 1048576 ∧ x.v ≠ 0 := by
  unfold canon at h
  rw [if_neg (by omega), if_neg (by omega), if_pos hk] at h
  split at h
  · cases h
  · simp at h; omega
theorem canon_kind {x : Flt} (h : (canon x).2 = true) : (x.k = 0 ∨ x.k = 1 ∨ x.k = 2 ∨ x.k = 3) ∧ (x.k = 3 → x.n = false) := by
  unfold canon at h
  split at h
  · omega
  · split at h
    · simp at h; exact ⟨by omega, fun _ => h.1.1⟩
    · split at h
      · omega
      · cases h
theorem rcanon_k (x : Flt) : (rcanon x).k = x.k := by unfold rcanon; split <;> simp_all
theorem rcanon_n (x : Flt) : (rcanon x).n = x.n := by unfold rcanon; split <;> rfl
theorem Rt.tame {l : List Fla} (hl : l.length < 1099511627776) (h : ∀ x ∈ l, Rt x) : Tame (l.map fun x => rcanon x.flt) ∧ Kinds (l.map fun x => rcanon x.flt) := by
  refine ⟨⟨by simpa using hl, fun y hy hk => ?_⟩, fun y hy => ?_⟩
  · obtain ⟨x, hx, rfl⟩ := List.mem_map.1 hy
    have hr := h x hx
    rw [rcanon_k] at hk
    have h1 := canon_one hr.can hk
    have hb := bl_le_len hr.ws (Nat.div_le_self (val x.m) (2 ^ tz (val x.m)))
    have hlen := hr.len
    have e1 : rcanon x.flt = ⟨1, x.n, x.e + tz (val x.m), val x.m / 2 ^ tz (val x.m)⟩ := by rw [rcanon, if_pos hk]; rfl
    rw [e1]
    have h1 : -1048576 ≤ x.e ∧ x.e + tz (val x.m) ≤ 1048576 ∧ val x.m ≠ 0 := h1
    exact ⟨by simp only []; omega, by simp only []; omega, by simp only []; omega⟩
  · obtain ⟨x, hx, rfl⟩ := List.mem_map.1 hy
    have hr := canon_kind (h x hx).can
    rw [rcanon_k, rcanon_n]
    exact hr
theorem RTotal_right {f p r : Int} (hf : fmOk f p = true) (hr : 0 ≤ r) (hr' : r ≤ 4) {l : List Fla} (hl : l.length < 1099511627776) (h : ∀ x ∈ l, Rt x) : Does Tryz.prog G 16 [Fm f p, .c (.i .i64 r), Rows l] (.t [((gatherP (l.map fun x => rcanon x.flt)).float f p r).1.pw, .c (.i .i64 ((gatherP (l.map fun x => rcanon x.flt)).float f p r).2)]) :=
  RTotal_new hf hr hr' hl (fun x hx => ⟨by have := (h x hx).len; omega, (h x hx).ws, (h x hx).md⟩) rfl (Rt.tame hl h).1 (Rt.tame hl h).2
theorem held_map {f p : Int} {l : List Fla} (h : allHold f p l = true) : (l.map fun x => rcanon x.flt) = heldL f p l := by
  unfold heldL
  apply List.map_congr_left
  intro x hx
  exact (held_rcanon (by simpa using List.all_eq_true.1 h x hx)).1
theorem held_rt {f p : Int} {l : List Fla} (h : allHold f p l = true) (ho : ∀ x ∈ l, x.Ok) (hm : ∀ x ∈ l, x.m.length ≤ 4096) : ∀ x ∈ l, Rt x := fun x hx =>
  ⟨(held_rcanon (by simpa using List.all_eq_true.1 h x hx)).2, (ho x hx).ws, hm x hx⟩
theorem RMinus_does {k e : Int} {n : Bool} {m : List Nat} (hm : m.length ≤ 1073741824) (wm : Ws m) (he : Md e) : Does Tryz.prog G 19 [Fl k n e m] (.v (rcanon ⟨k, n, e, val m⟩).neg.pw) := by
  have hc := @Canonical_new G k e n m hm wm he
  generalize rcanon ⟨k, n, e, val m⟩ = y at *
  refine Does.of (nt := 15) Tryz.func19 rfl rfl rfl (by simp) ?_
  simp only [argTm, PV.ext, Ce.ext]
  refine Do.seqk fun _ k1_ => ?_
  refine Do.region [1,2] true ?_
  simp [go_sem]
  apply k1_; clear k1_
  refine Do.seqk fun _ k2_ => ?_
  refine Do.region [1,2] true ?_
  simp [go_sem]
  repeat (refine And.intro (by first | omega | (intros; omega) | (intros; exact And.intro (by assumption) (by omega)) | grind) ?_)
  refine DoL.call true 102 rfl rfl rfl rfl (by first | exact trivial | omega | (simp; done) | (simp; omega)) (hc) rfl (by first | exact .inl rfl | exact .inr rfl) rfl ?_
  simp [go_sem]
  repeat (refine And.intro (by first | omega | (intros; omega) | (intros; exact And.intro (by assumption) (by omega)) | grind) ?_)
  apply k2_; clear k2_
  refine Do.seqk fun _ k3_ => ?_
  refine Do.region [1,2] true ?_
  simp [go_sem]
  repeat (refine And.intro (by first | omega | (intros; omega) | (intros; exact And.intro (by assumption) (by omega)) | grind) ?_)
  apply k3_; clear k3_
  refine Do.seqk fun _ k4_ => ?_
  refine Do.region [2] true ?_
  simp [go_sem]
  repeat (refine And.intro (by first | omega | (intros; omega) | (intros; exact And.intro (by assumption) (by omega)) | grind) ?_)
  apply k4_; clear k4_
  refine Do.ret ?_
  simp [endQ, rets, ret1, go_sem]
  repeat (refine And.intro (by first | omega | (intros; omega) | (intros; exact And.intro (by assumption) (by omega)) | grind) ?_)
  exact ret_w1 (PLe.refl _) (by simp [Flt.neg, Bool.and_comm])
end Go.Proofs.YtdaecibpkhcllaaGreatDoor
/- The law SumTotals. No condition. -/
namespace Go.Proofs.YtdaecibpkhcllaaGreatDoor
set_option linter.unusedVariables false
set_option linter.unusedSimpArgs false
set_option maxHeartbeats 4000000
set_option maxRecDepth 10000
theorem SumTotals_does {f p r : Int} {l : List Fla} (hl : ∀ x ∈ l, Ws x.m ∧ I64 x.e) : Does Tryz.prog Gv 4 [Fm f p, .c (.i .i64 r), Rows l] (.v (.c (.b true))) := by
  by_cases h30 : 30 < l.length
  · have d1 : (30 : Int) < l.length := by omega
    refine Does.of (nt := 63) Tryz.func4 rfl rfl rfl (by simp) ?_
    simp only [argTm, PV.ext, Ce.ext]
    refine Do.seqk fun _ k1_ => ?_
    refine Do.region [1,2,3] true ?_
    simp [go_sem, d1]
    apply k1_; clear k1_
    refine Do.seqk fun _ k2_ => ?_
    refine Do.seqk fun _ k3_ => ?_
    refine Do.region [1,2,3,20] true ?_
    simp [go_sem, d1]
    repeat (refine And.intro (by first | omega | (intros; omega) | (intros; exact And.intro (by assumption) (by omega)) | grind) ?_)
    refine DoL.gOff true 106 rfl rfl (.v (.c (.b false))) rfl ?_
    simp [go_sem, d1]
    repeat (refine And.intro (by first | omega | (intros; omega) | (intros; exact And.intro (by assumption) (by omega)) | grind) ?_)
    apply k3_; clear k3_
    refine Do.cond [1,2,3] rfl (fun h => ?_) (fun h => ?_) <;> simp [go_sem, d1] at h ⊢
    refine Do.seqk fun _ k4_ => ?_
    refine Do.region [6] true ?_
    simp [go_sem, d1]
    refine DoL.call true 201 rfl rfl rfl rfl (by first | exact trivial | omega | (simp; done) | (simp; omega)) (awake_does) rfl (by first | exact .inl rfl | exact .inr rfl) rfl ?_
    simp [go_sem, d1]
    apply k4_; clear k4_
    refine Do.ret ?_
    simp [endQ, rets, ret1, go_sem, d1]
    repeat (refine And.intro (by first | omega | (intros; omega) | (intros; exact And.intro (by assumption) (by omega)) | grind) ?_)
    exact TLe.refl _
  · have d2 : ¬ (30 : Int) < l.length := by omega
    have hS : Does Tryz.prog Gv 10 [Rows l] (.v (.c (.b (shortP l)))) := Short15_does (l := l) (by omega)
    cases hs : shortP l with
    | false =>
      rw [hs] at hS
      refine Does.of (nt := 63) Tryz.func4 rfl rfl rfl (by simp) ?_
      simp only [argTm, PV.ext, Ce.ext]
      refine Do.seqk fun _ k1_ => ?_
      refine Do.region [1,2,3] true ?_
      simp [go_sem, d2]
      apply k1_; clear k1_
      refine Do.seqk fun _ k2_ => ?_
      refine Do.seqk fun _ k3_ => ?_
      refine Do.region [1,2,3,20] true ?_
      simp [go_sem, d2]
      repeat (refine And.intro (by first | omega | (intros; omega) | (intros; exact And.intro (by assumption) (by omega)) | grind) ?_)
      refine DoL.callg true 106 rfl rfl rfl rfl rfl (by simp [go_sem] <;> omega) (fun _ => hS) rfl (by first | exact .inl rfl | exact .inr rfl) rfl ?_
      simp [go_sem, d2]
      repeat (refine And.intro (by first | omega | (intros; omega) | (intros; exact And.intro (by assumption) (by omega)) | grind) ?_)
      apply k3_; clear k3_
      refine Do.cond [1,2,3] rfl (fun h => ?_) (fun h => ?_) <;> simp [go_sem, d2] at h ⊢
      refine Do.seqk fun _ k4_ => ?_
      refine Do.region [6] true ?_
      simp [go_sem, d2]
      refine DoL.call true 201 rfl rfl rfl rfl (by first | exact trivial | omega | (simp; done) | (simp; omega)) (awake_does) rfl (by first | exact .inl rfl | exact .inr rfl) rfl ?_
      simp [go_sem, d2]
      apply k4_; clear k4_
      refine Do.ret ?_
      simp [endQ, rets, ret1, go_sem, d2]
      repeat (refine And.intro (by first | omega | (intros; omega) | (intros; exact And.intro (by assumption) (by omega)) | grind) ?_)
      exact TLe.refl _
    | true =>
      rw [hs] at hS
      have ho : ∀ x ∈ l, x.Ok := fun x hx => by
        have h1 : ∀ x ∈ l, x.m.length ≤ 40 := by simpa [shortP] using hs
        have := h1 x hx
        exact ⟨by simp [Sh]; omega, (hl x hx).1, (hl x hx).2⟩
      have hT := Total_does (f := f) (p := p) (r := r) (l := l) (by omega) ho
      have hA := @KArgs_does Gv f p r l (by omega) ho
      have hfx := @totalP_fix f p r l
      have hfn := @totalP_fine f p r l
      have hb : decide ((1000 : Int) < l.length) = false := by simp; omega
      generalize hz : totalP f p r l = z at *
      rw [totalP, hb] at hz
      by_cases he : argsE f p r false l = 0
      · rw [if_pos he] at hz
        obtain ⟨h1, h2, h3, h4, h5, h6⟩ := argsE_zero he
        have hR := @RTotal_right Gv f p r h5 h2 h3 l (by omega) (held_rt h6 ho h1)
        rw [held_map h6] at hR
        have hF := @Fits_same Gv z.1 z.2.1 hfn hfx
        rw [he] at hA
        have ez : z = (z.1, z.2.1, 0) := by rw [← hz]
        have hT : Does Tryz.prog Gv 20 [Fm f p, .c (.i .i64 r), Rows l] (.t [z.1.pv, .c (.i .i64 z.2.1), .c (.i .i64 0)]) := by rw [ez] at hT; exact hT
        have hR : Does Tryz.prog Gv 16 [Fm f p, .c (.i .i64 r), Rows l] (.t [z.1.pw, .c (.i .i64 z.2.1)]) := by rw [← hz]; exact hR
        refine Does.of (nt := 63) Tryz.func4 rfl rfl rfl (by simp) ?_
        simp only [argTm, PV.ext, Ce.ext]
        refine Do.seqk fun _ k1_ => ?_
        refine Do.region [1,2,3] true ?_
        simp [go_sem, d2]
        apply k1_; clear k1_
        refine Do.seqk fun _ k2_ => ?_
        refine Do.seqk fun _ k3_ => ?_
        refine Do.region [1,2,3,20] true ?_
        simp [go_sem, d2]
        repeat (refine And.intro (by first | omega | (intros; omega) | (intros; exact And.intro (by assumption) (by omega)) | grind) ?_)
        refine DoL.callg true 106 rfl rfl rfl rfl rfl (by simp [go_sem] <;> omega) (fun _ => hS) rfl (by first | exact .inl rfl | exact .inr rfl) rfl ?_
        simp [go_sem, d2]
        repeat (refine And.intro (by first | omega | (intros; omega) | (intros; exact And.intro (by assumption) (by omega)) | grind) ?_)
        apply k3_; clear k3_
        refine Do.cond [1,2,3] rfl (fun h => ?_) (fun h => ?_) <;> simp [go_sem, d2] at h ⊢
        refine Do.skip ?_
        simp [go_sem]
        apply k2_; clear k2_
        refine Do.seqk fun _ k4_ => ?_
        refine Do.region [1,2,3,7,8,9] true ?_
        simp [go_sem, d2]
        repeat (refine And.intro (by first | omega | (intros; omega) | (intros; exact And.intro (by assumption) (by omega)) | grind) ?_)
        refine DoL.call true 304 rfl rfl rfl rfl (by first | exact trivial | omega | (simp; done) | (simp; omega)) (hT) rfl (by first | exact .inl rfl | exact .inr rfl) rfl ?_
        simp [go_sem, d2]
        repeat (refine And.intro (by first | omega | (intros; omega) | (intros; exact And.intro (by assumption) (by omega)) | grind) ?_)
        apply k4_; clear k4_
        refine Do.seqk fun _ k5_ => ?_
        refine Do.region [1,2,3,7,8,9,10] true ?_
        simp [go_sem, d2]
        repeat (refine And.intro (by first | omega | (intros; omega) | (intros; exact And.intro (by assumption) (by omega)) | grind) ?_)
        refine DoL.call true 404 rfl rfl rfl rfl (by first | exact trivial | omega | (simp; done) | (simp; omega)) (hA) rfl (by first | exact .inl rfl | exact .inr rfl) rfl ?_
        simp [go_sem, d2]
        apply k5_; clear k5_
        refine Do.seqk fun _ k6_ => ?_
        refine Do.seqk fun _ k7_ => ?_
        refine Do.region [1,2,3,7,8,9,10,35] true ?_
        simp [go_sem, d2]
        apply k7_; clear k7_
        refine Do.cond [1,2,3,7,8,9,10] rfl (fun h => ?_) (fun h => ?_) <;> simp [go_sem, d2] at h ⊢
        refine Do.skip ?_
        simp [go_sem]
        apply k6_; clear k6_
        refine Do.seqk fun _ k8_ => ?_
        refine Do.region [7,8,9,11,12] true ?_
        simp [go_sem, d2]
        repeat (refine And.intro (by first | omega | (intros; omega) | (intros; exact And.intro (by assumption) (by omega)) | grind) ?_)
        refine DoL.call true 702 rfl rfl rfl rfl (by first | exact trivial | omega | (simp; done) | (simp; omega)) (Fmt_does) rfl (by first | exact .inl rfl | exact .inr rfl) rfl ?_
        simp [go_sem, d2]
        refine DoL.call true 705 rfl rfl rfl rfl (by first | exact trivial | omega | (simp; done) | (simp; omega)) (Theirs_does (by omega)) rfl (by first | exact .inl rfl | exact .inr rfl) rfl ?_
        simp [go_sem, d2]
        refine DoL.call true 706 rfl rfl rfl rfl (by first | exact trivial | omega | (simp; done) | (simp; omega)) (hR) rfl (by first | exact .inl rfl | exact .inr rfl) rfl ?_
        simp [go_sem, d2]
        repeat (refine And.intro (by first | omega | (intros; omega) | (intros; exact And.intro (by assumption) (by omega)) | grind) ?_)
        apply k8_; clear k8_
        refine Do.seqk fun _ k9_ => ?_
        refine Do.region [6] true ?_
        simp [go_sem, d2]
        repeat (refine And.intro (by first | omega | (intros; omega) | (intros; exact And.intro (by assumption) (by omega)) | grind) ?_)
        refine DoL.call true 806 rfl rfl rfl rfl (by first | exact trivial | omega | (simp; done) | (simp; omega)) (hF) rfl (by first | exact .inl rfl | exact .inr rfl) rfl ?_
        simp [go_sem, d2]
        refine DoL.callg true 808 rfl rfl rfl rfl rfl (by simp [go_sem] <;> omega) (fun _ => awake_does) rfl (by first | exact .inl rfl | exact .inr rfl) rfl ?_
        simp [go_sem, d2]
        apply k9_; clear k9_
        refine Do.ret ?_
        simp [endQ, rets, ret1, go_sem, d2]
        repeat (refine And.intro (by first | omega | (intros; omega) | (intros; exact And.intro (by assumption) (by omega)) | grind) ?_)
        exact TLe.refl _
      · rw [if_neg he] at hz
        have hF := @Fits_none 0 0 false [] 0 (argsE f p r false l) ⟨rfl, rfl, rfl, rfl⟩ he (argsE f p r false l)
        generalize argsE f p r false l = ae at *
        have hT : Does Tryz.prog Gv 20 [Fm f p, .c (.i .i64 r), Rows l] (.t [Fl 0 false 0 (nat 0), .c (.i .i64 0), .c (.i .i64 ae)]) := by rw [← hz] at hT; exact hT
        rw [nat_zero] at hT
        refine Does.of (nt := 63) Tryz.func4 rfl rfl rfl (by simp) ?_
        simp only [argTm, PV.ext, Ce.ext]
        refine Do.seqk fun _ k1_ => ?_
        refine Do.region [1,2,3] true ?_
        simp [go_sem, d2]
        apply k1_; clear k1_
        refine Do.seqk fun _ k2_ => ?_
        refine Do.seqk fun _ k3_ => ?_
        refine Do.region [1,2,3,20] true ?_
        simp [go_sem, d2]
        repeat (refine And.intro (by first | omega | (intros; omega) | (intros; exact And.intro (by assumption) (by omega)) | grind) ?_)
        refine DoL.callg true 106 rfl rfl rfl rfl rfl (by simp [go_sem] <;> omega) (fun _ => hS) rfl (by first | exact .inl rfl | exact .inr rfl) rfl ?_
        simp [go_sem, d2]
        repeat (refine And.intro (by first | omega | (intros; omega) | (intros; exact And.intro (by assumption) (by omega)) | grind) ?_)
        apply k3_; clear k3_
        refine Do.cond [1,2,3] rfl (fun h => ?_) (fun h => ?_) <;> simp [go_sem, d2] at h ⊢
        refine Do.skip ?_
        simp [go_sem]
        apply k2_; clear k2_
        refine Do.seqk fun _ k4_ => ?_
        refine Do.region [1,2,3,7,8,9] true ?_
        simp [go_sem, d2]
        repeat (refine And.intro (by first | omega | (intros; omega) | (intros; exact And.intro (by assumption) (by omega)) | grind) ?_)
        refine DoL.call true 304 rfl rfl rfl rfl (by first | exact trivial | omega | (simp; done) | (simp; omega)) (hT) rfl (by first | exact .inl rfl | exact .inr rfl) rfl ?_
        simp [go_sem, d2]
        repeat (refine And.intro (by first | omega | (intros; omega) | (intros; exact And.intro (by assumption) (by omega)) | grind) ?_)
        apply k4_; clear k4_
        refine Do.seqk fun _ k5_ => ?_
        refine Do.region [1,2,3,7,8,9,10] true ?_
        simp [go_sem, d2]
        repeat (refine And.intro (by first | omega | (intros; omega) | (intros; exact And.intro (by assumption) (by omega)) | grind) ?_)
        refine DoL.call true 404 rfl rfl rfl rfl (by first | exact trivial | omega | (simp; done) | (simp; omega)) (hA) rfl (by first | exact .inl rfl | exact .inr rfl) rfl ?_
        simp [go_sem, d2]
        apply k5_; clear k5_
        refine Do.seqk fun _ k6_ => ?_
        refine Do.seqk fun _ k7_ => ?_
        refine Do.region [1,2,3,7,8,9,10,35] true ?_
        simp [go_sem, d2]
        apply k7_; clear k7_
        refine Do.cond [1,2,3,7,8,9,10] rfl (fun h5 => ?_) (fun h5 => ?_) <;> simp [go_sem, d2] at h5 ⊢
        · refine Do.seqk fun _ k8_ => ?_
          refine Do.region [6] true ?_
          simp [go_sem, d2]
          repeat (refine And.intro (by first | omega | (intros; omega) | (intros; exact And.intro (by assumption) (by omega)) | grind) ?_)
          refine DoL.call true 606 rfl rfl rfl rfl (by first | exact trivial | omega | (simp; done) | (simp; omega)) (hF) rfl (by first | exact .inl rfl | exact .inr rfl) rfl ?_
          simp [go_sem, d2]
          refine DoL.callg true 608 rfl rfl rfl rfl rfl (by simp [go_sem] <;> omega) (fun _ => awake_does) rfl (by first | exact .inl rfl | exact .inr rfl) rfl ?_
          simp [go_sem, d2]
          apply k8_; clear k8_
          refine Do.ret ?_
          simp [endQ, rets, ret1, go_sem, d2]
          repeat (refine And.intro (by first | omega | (intros; omega) | (intros; exact And.intro (by assumption) (by omega)) | grind) ?_)
          exact TLe.refl _
        · exact absurd h5 he
end Go.Proofs.YtdaecibpkhcllaaGreatDoor
/- The law SumAdds. No condition. -/
namespace Go.Proofs.YtdaecibpkhcllaaGreatDoor
set_option linter.unusedVariables false
set_option linter.unusedSimpArgs false
set_option maxHeartbeats 4000000
set_option maxRecDepth 10000
theorem rcanon_neg (x : Flt) : rcanon x.neg = (rcanon x).neg := by
  unfold rcanon Flt.neg
  by_cases h : x.k = 1 <;> simp [h]
theorem canon_rneg {x : Flt} (h : (canon x).2 = true) : (canon (rcanon x).neg).2 = true := by
  have hk := (canon_kind h).1
  by_cases h1 : x.k = 1
  · have hb := canon_one h h1
    have e1 : (rcanon x).neg = ⟨1, !x.n, x.e + tz x.v, x.v / 2 ^ tz x.v⟩ := by simp [rcanon, Flt.neg, h1]
    have hd : x.v / 2 ^ tz x.v ≠ 0 := by
      obtain ⟨m, hm⟩ := tz_form (show 0 < x.v by omega)
      have : x.v / 2 ^ tz x.v = 2 * m + 1 := by
        conv => lhs; arg 1; rw [hm]
        exact Nat.mul_div_cancel_left _ (Nat.pow_pos (by decide))
      omega
    rw [e1]
    unfold canon
    simp only []
    rw [if_neg (by omega), if_neg (by omega), if_pos trivial, if_neg (by omega)]
    simp [tz_rest (show 0 < x.v by omega)]; omega
  · have e1 : (rcanon x).neg = ⟨x.k, x.k != 3 && !x.n, 0, 0⟩ := by simp [rcanon, Flt.neg, h1]
    rw [e1]
    unfold canon
    simp only []
    rcases hk with hk | hk | hk | hk
    · rw [if_pos (by omega)]; simp
    · exact absurd hk h1
    · rw [if_pos (by omega)]; simp
    · rw [if_neg (by omega), if_pos hk]; simp [hk]
theorem subP_fine {f p r : Int} {x y : Fla} : Fine (subP f p r x y).1 := by
  unfold subP
  split
  · rename_i h
    exact float_fine (argsE_zero h).2.2.2.2.1
  · exact fine_zero
theorem subP_fix {f p r : Int} {x y : Fla} : rcanon (subP f p r x y).1 = (subP f p r x y).1 := by
  unfold subP
  split
  · rename_i h
    exact float_fix (argsE_zero h).2.2.2.2.1
  · rfl
theorem SumAdds_does {f p r : Int} {x y : Fla} (hx : Ws x.m) (ex : I64 x.e) (hy : Ws y.m) (ey : I64 y.e) : Does Tryz.prog Gv 3 [Fm f p, .c (.i .i64 r), Fl x.k x.n x.e x.m, Fl y.k y.n y.e y.m] (.v (.c (.b true))) := by
  have hS : Does Tryz.prog Gv 10 [.s false [x.cs, y.cs]] (.v (.c (.b (shortP [x, y])))) := Short15_does (l := [x, y]) (by simp)
  cases hs : shortP [x, y] with
  | false =>
    rw [hs] at hS
    refine Does.of (nt := 111) Tryz.func3 rfl rfl rfl (by simp) ?_
    simp only [argTm, PV.ext, Ce.ext]
    refine Do.seqk fun _ k1_ => ?_
    refine Do.region [1,4,6,7] true ?_
    simp [go_sem]
    apply k1_; clear k1_
    refine Do.seqk fun _ k2_ => ?_
    refine Do.seqk fun _ k3_ => ?_
    refine Do.region [1,4,6,7,24] true ?_
    simp [go_sem]
    repeat (refine And.intro (by first | omega | (intros; omega) | (intros; exact And.intro (by assumption) (by omega)) | grind) ?_)
    refine DoL.sealS true 103 102 rfl ?_
    simp [go_sem]
    refine DoL.call true 104 rfl rfl rfl rfl (by first | exact trivial | omega | (simp; done) | (simp; omega)) (hS) rfl (by first | exact .inl rfl | exact .inr rfl) rfl ?_
    simp [go_sem]
    repeat (refine And.intro (by first | omega | (intros; omega) | (intros; exact And.intro (by assumption) (by omega)) | grind) ?_)
    apply k3_; clear k3_
    refine Do.cond [1,4,6,7] rfl (fun h => ?_) (fun h => ?_) <;> simp [go_sem] at h ⊢
    refine Do.seqk fun _ k4_ => ?_
    refine Do.region [8] true ?_
    simp [go_sem]
    refine DoL.call true 201 rfl rfl rfl rfl (by first | exact trivial | omega | (simp; done) | (simp; omega)) (awake_does) rfl (by first | exact .inl rfl | exact .inr rfl) rfl ?_
    simp [go_sem]
    apply k4_; clear k4_
    refine Do.ret ?_
    simp [endQ, rets, ret1, go_sem]
    repeat (refine And.intro (by first | omega | (intros; omega) | (intros; exact And.intro (by assumption) (by omega)) | grind) ?_)
    exact TLe.refl _
  | true =>
    rw [hs] at hS
    have hsx : x.m.length ≤ 40 ∧ y.m.length ≤ 40 := by simpa [shortP] using hs
    have ox : x.Ok := ⟨by simp [Sh]; omega, hx, ex⟩
    have oy : y.Ok := ⟨by simp [Sh]; omega, hy, ey⟩
    have ho : ∀ u ∈ [x, y], u.Ok := by simp [ox, oy]
    have hT := SAdd_does (f := f) (p := p) (r := r) ox oy
    have hU := SSub_does (f := f) (p := p) (r := r) ox oy
    have hA : Does Tryz.prog Gv 14 [Fm f p, .c (.i .i64 r), .s false [x.cs, y.cs]] (.int .i64 (argsE f p r false [x, y])) := @KArgs_does Gv f p r [x, y] (by simp) ho
    have hfx := @totalP_fix f p r [x, y]
    have hfn := @totalP_fine f p r [x, y]
    have gfx := @subP_fix f p r x y
    have gfn := @subP_fine f p r x y
    generalize hz : totalP f p r [x, y] = z at *
    generalize hu : subP f p r x y = u at *
    rw [totalP, show decide ((1000 : Int) < ([x, y] : List Fla).length) = false by simp] at hz
    rw [subP] at hu
    by_cases he : argsE f p r false [x, y] = 0
    · rw [if_pos he] at hz hu
      obtain ⟨h1, h2, h3, h4, h5, h6⟩ := argsE_zero he
      have hrt := held_rt h6 ho h1
      have hR := @RTotal_right Gv f p r h5 h2 h3 [x, y] (by simp) hrt
      rw [held_map h6] at hR
      have hy2 := hrt y (by simp)
      have hx2 := hrt x (by simp)
      have hhx := held_rcanon (f := f) (p := p) (x := x.flt) (by simpa using List.all_eq_true.1 h6 x (by simp))
      have hhy := held_rcanon (f := f) (p := p) (x := y.flt) (by simpa using List.all_eq_true.1 h6 y (by simp))
      have hM := @RMinus_does Gv y.k y.e y.n y.m (by omega) hy hy2.md
      rw [show (⟨y.k, y.n, y.e, val y.m⟩ : Flt) = y.flt from rfl] at hM
      have hw : Rt (rcanon y.flt).neg.fla := ⟨by rw [Flt.fla_flt]; exact canon_rneg hhy.2, nat_ws _, by
        have hb := bl_le_len hy (rv_le (k := y.k) (n := y.n) (e := y.e))
        have := nat_len_bl (rcanon y.flt).v
        rw [show (⟨y.k, y.n, y.e, val y.m⟩ : Flt) = y.flt from rfl] at hb
        show (nat (rcanon y.flt).v).length ≤ 4096
        omega⟩
      have hV := @RTotal_right Gv f p r h5 h2 h3 [x, (rcanon y.flt).neg.fla] (by simp) (by simp [hx2, hw])
      simp only [List.map_cons, List.map_nil, Flt.fla_flt, rcanon_neg, rcanon_idem] at hV
      rw [hhx.1, hhy.1] at hV
      rw [hhy.1] at hM
      generalize (holdsP f p y.flt).1.neg = w at *
      have hF := @Fits_same Gv z.1 z.2.1 hfn hfx
      have hG := @Fits_same Gv u.1 u.2.1 gfn gfx
      rw [he] at hA
      have ez : z = (z.1, z.2.1, 0) := by rw [← hz]
      have eu : u = (u.1, u.2.1, 0) := by rw [← hu]
      have hT : Does Tryz.prog Gv 12 [Fm f p, .c (.i .i64 r), Fl x.k x.n x.e x.m, Fl y.k y.n y.e y.m] (.t [z.1.pv, .c (.i .i64 z.2.1), .c (.i .i64 0)]) := by rw [ez] at hT; exact hT
      have hU : Does Tryz.prog Gv 13 [Fm f p, .c (.i .i64 r), Fl x.k x.n x.e x.m, Fl y.k y.n y.e y.m] (.t [u.1.pv, .c (.i .i64 u.2.1), .c (.i .i64 0)]) := by rw [eu] at hU; exact hU
      have hR : Does Tryz.prog Gv 16 [Fm f p, .c (.i .i64 r), .s false [x.cs, y.cs]] (.t [z.1.pw, .c (.i .i64 z.2.1)]) := by rw [← hz]; exact hR
      have hV : Does Tryz.prog Gv 16 [Fm f p, .c (.i .i64 r), .s false [x.cs, w.cs]] (.t [u.1.pw, .c (.i .i64 u.2.1)]) := by rw [← hu]; exact hV
      refine Does.of (nt := 111) Tryz.func3 rfl rfl rfl (by simp) ?_
      simp only [argTm, PV.ext, Ce.ext]
      refine Do.seqk fun _ k1_ => ?_
      refine Do.region [1,4,6,7] true ?_
      simp [go_sem]
      apply k1_; clear k1_
      refine Do.seqk fun _ k2_ => ?_
      refine Do.seqk fun _ k3_ => ?_
      refine Do.region [1,4,6,7,24] true ?_
      simp [go_sem]
      repeat (refine And.intro (by first | omega | (intros; omega) | (intros; exact And.intro (by assumption) (by omega)) | grind) ?_)
      refine DoL.sealS true 103 102 rfl ?_
      simp [go_sem]
      refine DoL.call true 104 rfl rfl rfl rfl (by first | exact trivial | omega | (simp; done) | (simp; omega)) (hS) rfl (by first | exact .inl rfl | exact .inr rfl) rfl ?_
      simp [go_sem]
      repeat (refine And.intro (by first | omega | (intros; omega) | (intros; exact And.intro (by assumption) (by omega)) | grind) ?_)
      apply k3_; clear k3_
      refine Do.cond [1,4,6,7] rfl (fun h => ?_) (fun h => ?_) <;> simp [go_sem] at h ⊢
      refine Do.skip ?_
      simp [go_sem]
      apply k2_; clear k2_
      refine Do.seqk fun _ k4_ => ?_
      refine Do.region [1,4,6,7,9,10,11] true ?_
      simp [go_sem]
      repeat (refine And.intro (by first | omega | (intros; omega) | (intros; exact And.intro (by assumption) (by omega)) | grind) ?_)
      refine DoL.call true 305 rfl rfl rfl rfl (by first | exact trivial | omega | (simp; done) | (simp; omega)) (hT) rfl (by first | exact .inl rfl | exact .inr rfl) rfl ?_
      simp [go_sem]
      repeat (refine And.intro (by first | omega | (intros; omega) | (intros; exact And.intro (by assumption) (by omega)) | grind) ?_)
      apply k4_; clear k4_
      refine Do.seqk fun _ k5_ => ?_
      refine Do.region [1,4,6,7,9,10,11,12,13,14] true ?_
      simp [go_sem]
      repeat (refine And.intro (by first | omega | (intros; omega) | (intros; exact And.intro (by assumption) (by omega)) | grind) ?_)
      refine DoL.call true 405 rfl rfl rfl rfl (by first | exact trivial | omega | (simp; done) | (simp; omega)) (hU) rfl (by first | exact .inl rfl | exact .inr rfl) rfl ?_
      simp [go_sem]
      repeat (refine And.intro (by first | omega | (intros; omega) | (intros; exact And.intro (by assumption) (by omega)) | grind) ?_)
      apply k5_; clear k5_
      refine Do.seqk fun _ k6_ => ?_
      refine Do.region [1,4,6,7,9,10,11,12,13,14,15] true ?_
      simp [go_sem]
      repeat (refine And.intro (by first | omega | (intros; omega) | (intros; exact And.intro (by assumption) (by omega)) | grind) ?_)
      refine DoL.sealS true 505 504 rfl ?_
      simp [go_sem]
      refine DoL.call true 506 rfl rfl rfl rfl (by first | exact trivial | omega | (simp; done) | (simp; omega)) (hA) rfl (by first | exact .inl rfl | exact .inr rfl) rfl ?_
      simp [go_sem]
      apply k6_; clear k6_
      refine Do.seqk fun _ k7_ => ?_
      refine Do.seqk fun _ k8_ => ?_
      refine Do.region [1,4,6,7,9,10,11,12,13,14,15,51] true ?_
      simp [go_sem]
      apply k8_; clear k8_
      refine Do.cond [1,4,6,7,9,10,11,12,13,14,15] rfl (fun h => ?_) (fun h => ?_) <;> simp [go_sem] at h ⊢
      refine Do.skip ?_
      simp [go_sem]
      apply k7_; clear k7_
      refine Do.seqk fun _ k9_ => ?_
      refine Do.draw [1,4,6,7,9,10,11,12,13,14,16,17] true (by kernel_rfl) ?_
      simp [go_sem]
      repeat (refine And.intro (by first | omega | (intros; omega) | (intros; exact And.intro (by assumption) (by omega)) | kernel_rfl | grind) ?_)
      refine DoLD.call true 802 rfl rfl rfl rfl (by first | exact trivial | omega | (simp; done) | (simp; omega)) (Fmt_does) rfl (by first | exact .inl rfl | exact .inr rfl) rfl ?_
      simp [go_sem]
      repeat (refine And.intro (by first | omega | (intros; omega) | (intros; exact And.intro (by assumption) (by omega)) | kernel_rfl | grind) ?_)
      refine DoLD.call true 805 rfl rfl rfl rfl (by first | exact trivial | omega | (simp; done) | (simp; omega)) (Their_does) rfl (by first | exact .inl rfl | exact .inr rfl) rfl ?_
      simp [go_sem]
      repeat (refine And.intro (by first | omega | (intros; omega) | (intros; exact And.intro (by assumption) (by omega)) | kernel_rfl | grind) ?_)
      refine DoLD.call true 807 rfl rfl rfl rfl (by first | exact trivial | omega | (simp; done) | (simp; omega)) (Their_does) rfl (by first | exact .inl rfl | exact .inr rfl) rfl ?_
      simp [go_sem]
      refine DoLD.call true 809 rfl rfl rfl rfl (by first | exact trivial | omega | (simp; done) | (simp; omega)) (hR) rfl (by first | exact .inl rfl | exact .inr rfl) rfl ?_
      simp [go_sem]
      repeat (refine And.intro (by first | omega | (intros; omega) | (intros; exact And.intro (by assumption) (by omega)) | kernel_rfl | grind) ?_)
      try (refine And.intro (by kernel_rfl) ?_)
      apply k9_; clear k9_
      refine Do.seqk fun _ k10_ => ?_
      refine Do.draw [9,10,11,12,13,14,16,17,18,19] true (by kernel_rfl) ?_
      simp [go_sem]
      repeat (refine And.intro (by first | omega | (intros; omega) | (intros; exact And.intro (by assumption) (by omega)) | kernel_rfl | grind) ?_)
      refine DoLD.call true 902 rfl rfl rfl rfl (by first | exact trivial | omega | (simp; done) | (simp; omega)) (Fmt_does) rfl (by first | exact .inl rfl | exact .inr rfl) rfl ?_
      simp [go_sem]
      repeat (refine And.intro (by first | omega | (intros; omega) | (intros; exact And.intro (by assumption) (by omega)) | kernel_rfl | grind) ?_)
      refine DoLD.call true 905 rfl rfl rfl rfl (by first | exact trivial | omega | (simp; done) | (simp; omega)) (Their_does) rfl (by first | exact .inl rfl | exact .inr rfl) rfl ?_
      simp [go_sem]
      repeat (refine And.intro (by first | omega | (intros; omega) | (intros; exact And.intro (by assumption) (by omega)) | kernel_rfl | grind) ?_)
      refine DoLD.call true 907 rfl rfl rfl rfl (by first | exact trivial | omega | (simp; done) | (simp; omega)) (Their_does) rfl (by first | exact .inl rfl | exact .inr rfl) rfl ?_
      simp [go_sem]
      refine DoLD.call true 908 rfl rfl rfl rfl (by first | exact trivial | omega | (simp; done) | (simp; omega)) (hM) rfl (by first | exact .inl rfl | exact .inr rfl) rfl ?_
      simp [go_sem]
      refine DoLD.call true 910 rfl rfl rfl rfl (by first | exact trivial | omega | (simp; done) | (simp; omega)) (hV) rfl (by first | exact .inl rfl | exact .inr rfl) rfl ?_
      simp [go_sem]
      repeat (refine And.intro (by first | omega | (intros; omega) | (intros; exact And.intro (by assumption) (by omega)) | kernel_rfl | grind) ?_)
      try (refine And.intro (by kernel_rfl) ?_)
      apply k10_; clear k10_
      refine Do.seqk fun _ k11_ => ?_
      refine Do.region [8] true ?_
      simp [go_sem]
      repeat (refine And.intro (by first | omega | (intros; omega) | (intros; exact And.intro (by assumption) (by omega)) | grind) ?_)
      refine DoL.call true 1006 rfl rfl rfl rfl (by first | exact trivial | omega | (simp; done) | (simp; omega)) (hF) rfl (by first | exact .inl rfl | exact .inr rfl) rfl ?_
      simp [go_sem]
      repeat (refine And.intro (by first | omega | (intros; omega) | (intros; exact And.intro (by assumption) (by omega)) | grind) ?_)
      refine DoL.callg true 1013 rfl rfl rfl rfl rfl (by simp [go_sem] <;> omega) (fun _ => hG) rfl (by first | exact .inl rfl | exact .inr rfl) rfl ?_
      simp [go_sem]
      refine DoL.callg true 1016 rfl rfl rfl rfl rfl (by simp [go_sem] <;> omega) (fun _ => awake_does) rfl (by first | exact .inl rfl | exact .inr rfl) rfl ?_
      simp [go_sem]
      apply k11_; clear k11_
      refine Do.ret ?_
      simp [endQ, rets, ret1, go_sem]
      repeat (refine And.intro (by first | omega | (intros; omega) | (intros; exact And.intro (by assumption) (by omega)) | grind) ?_)
      exact TLe.refl _
    · rw [if_neg he] at hz hu
      have hF := @Fits_none 0 0 false [] 0 (argsE f p r false [x, y]) ⟨rfl, rfl, rfl, rfl⟩ he (argsE f p r false [x, y])
      generalize argsE f p r false [x, y] = ae at *
      have hT : Does Tryz.prog Gv 12 [Fm f p, .c (.i .i64 r), Fl x.k x.n x.e x.m, Fl y.k y.n y.e y.m] (.t [Fl 0 false 0 (nat 0), .c (.i .i64 0), .c (.i .i64 ae)]) := by rw [← hz] at hT; exact hT
      have hU : Does Tryz.prog Gv 13 [Fm f p, .c (.i .i64 r), Fl x.k x.n x.e x.m, Fl y.k y.n y.e y.m] (.t [Fl 0 false 0 (nat 0), .c (.i .i64 0), .c (.i .i64 ae)]) := by rw [← hu] at hU; exact hU
      rw [nat_zero] at hT hU
      refine Does.of (nt := 111) Tryz.func3 rfl rfl rfl (by simp) ?_
      simp only [argTm, PV.ext, Ce.ext]
      refine Do.seqk fun _ k1_ => ?_
      refine Do.region [1,4,6,7] true ?_
      simp [go_sem]
      apply k1_; clear k1_
      refine Do.seqk fun _ k2_ => ?_
      refine Do.seqk fun _ k3_ => ?_
      refine Do.region [1,4,6,7,24] true ?_
      simp [go_sem]
      repeat (refine And.intro (by first | omega | (intros; omega) | (intros; exact And.intro (by assumption) (by omega)) | grind) ?_)
      refine DoL.sealS true 103 102 rfl ?_
      simp [go_sem]
      refine DoL.call true 104 rfl rfl rfl rfl (by first | exact trivial | omega | (simp; done) | (simp; omega)) (hS) rfl (by first | exact .inl rfl | exact .inr rfl) rfl ?_
      simp [go_sem]
      repeat (refine And.intro (by first | omega | (intros; omega) | (intros; exact And.intro (by assumption) (by omega)) | grind) ?_)
      apply k3_; clear k3_
      refine Do.cond [1,4,6,7] rfl (fun h => ?_) (fun h => ?_) <;> simp [go_sem] at h ⊢
      refine Do.skip ?_
      simp [go_sem]
      apply k2_; clear k2_
      refine Do.seqk fun _ k4_ => ?_
      refine Do.region [1,4,6,7,9,10,11] true ?_
      simp [go_sem]
      repeat (refine And.intro (by first | omega | (intros; omega) | (intros; exact And.intro (by assumption) (by omega)) | grind) ?_)
      refine DoL.call true 305 rfl rfl rfl rfl (by first | exact trivial | omega | (simp; done) | (simp; omega)) (hT) rfl (by first | exact .inl rfl | exact .inr rfl) rfl ?_
      simp [go_sem]
      repeat (refine And.intro (by first | omega | (intros; omega) | (intros; exact And.intro (by assumption) (by omega)) | grind) ?_)
      apply k4_; clear k4_
      refine Do.seqk fun _ k5_ => ?_
      refine Do.region [1,4,6,7,9,10,11,12,13,14] true ?_
      simp [go_sem]
      repeat (refine And.intro (by first | omega | (intros; omega) | (intros; exact And.intro (by assumption) (by omega)) | grind) ?_)
      refine DoL.call true 405 rfl rfl rfl rfl (by first | exact trivial | omega | (simp; done) | (simp; omega)) (hU) rfl (by first | exact .inl rfl | exact .inr rfl) rfl ?_
      simp [go_sem]
      repeat (refine And.intro (by first | omega | (intros; omega) | (intros; exact And.intro (by assumption) (by omega)) | grind) ?_)
      apply k5_; clear k5_
      refine Do.seqk fun _ k6_ => ?_
      refine Do.region [1,4,6,7,9,10,11,12,13,14,15] true ?_
      simp [go_sem]
      repeat (refine And.intro (by first | omega | (intros; omega) | (intros; exact And.intro (by assumption) (by omega)) | grind) ?_)
      refine DoL.sealS true 505 504 rfl ?_
      simp [go_sem]
      refine DoL.call true 506 rfl rfl rfl rfl (by first | exact trivial | omega | (simp; done) | (simp; omega)) (hA) rfl (by first | exact .inl rfl | exact .inr rfl) rfl ?_
      simp [go_sem]
      apply k6_; clear k6_
      refine Do.seqk fun _ k7_ => ?_
      refine Do.seqk fun _ k8_ => ?_
      refine Do.region [1,4,6,7,9,10,11,12,13,14,15,51] true ?_
      simp [go_sem]
      apply k8_; clear k8_
      refine Do.cond [1,4,6,7,9,10,11,12,13,14,15] rfl (fun h5 => ?_) (fun h5 => ?_) <;> simp [go_sem] at h5 ⊢
      · refine Do.seqk fun _ k9_ => ?_
        refine Do.region [8] true ?_
        simp [go_sem]
        repeat (refine And.intro (by first | omega | (intros; omega) | (intros; exact And.intro (by assumption) (by omega)) | grind) ?_)
        refine DoL.call true 706 rfl rfl rfl rfl (by first | exact trivial | omega | (simp; done) | (simp; omega)) (hF) rfl (by first | exact .inl rfl | exact .inr rfl) rfl ?_
        simp [go_sem]
        repeat (refine And.intro (by first | omega | (intros; omega) | (intros; exact And.intro (by assumption) (by omega)) | grind) ?_)
        refine DoL.callg true 713 rfl rfl rfl rfl rfl (by simp [go_sem] <;> omega) (fun _ => hF) rfl (by first | exact .inl rfl | exact .inr rfl) rfl ?_
        simp [go_sem]
        refine DoL.callg true 716 rfl rfl rfl rfl rfl (by simp [go_sem] <;> omega) (fun _ => awake_does) rfl (by first | exact .inl rfl | exact .inr rfl) rfl ?_
        simp [go_sem]
        apply k9_; clear k9_
        refine Do.ret ?_
        simp [endQ, rets, ret1, go_sem]
        repeat (refine And.intro (by first | omega | (intros; omega) | (intros; exact And.intro (by assumption) (by omega)) | grind) ?_)
        exact TLe.refl _
      · exact absurd h5 he
end Go.Proofs.YtdaecibpkhcllaaGreatDoor
/- The package variables of the program, as they are laid, and what a law's arguments are. No condition. -/
namespace Go.Proofs.YtdaecibpkhcllaaGreatDoor
set_option linter.unusedVariables false
set_option linter.unusedSimpArgs false
open Go.ChangeShapes Go.WideShapes Go.ChangeAt Go.RowKit
theorem own : ownKnob Tryz.prog.godebug = Option.none := by kernel_rfl
theorem laidOut : laidOutB Tryz.prog = true := by kernel_rfl
theorem g0_name : Tryz.prog.globalNamed "math/bits.deBruijn64tab" = some 1 := by kernel_rfl
theorem g1_name : Tryz.prog.globalNamed "reckoner/fin.more" = some 0 := by kernel_rfl
/-- What is listed. -/
abbrev laidL : List (String × DataW Unit) := [("math/bits.deBruijn64tab", Rows.laid_math_bits_deBruijn64tab), ("reckoner/fin.more", Rows.laid_reckoner_fin_more)]
section
variable {H : Type} {enc : TypeId × Value → H} {P : Program} {W : World} {base : Nat} {sp : Nat → Bool} {held : Bool}
theorem array_at {t e : TypeId} {n fuel : Nat} {cs : List Value} {ds : List (DataW H)} {p : List MemPlace} (ht : P.underlying t = some (.array n e)) (hc : P.cellsOf e = 1) (h : DataW.trod enc P W base sp held fuel t cs = some (.agg ds, p)) {i : Nat} {d : DataW H} (hd : ds[i]? = some d) : ∃ v m q, cs[i]? = some v ∧ DataW.trod enc P W base sp held m e [v] = some (d, q) := by
  obtain ⟨xs, m, rfl, hx, hl, hn, hel⟩ := DataW.trod_array ht h
  simp only [Prod.mk.injEq, DataW.agg.injEq] at hx
  obtain ⟨rfl, _⟩ := hx
  rw [List.getElem?_map] at hd
  cases hxi : xs[i]? with
  | none => simp [hxi] at hd
  | some y =>
    rw [hxi] at hd
    simp only [Option.map_some, Option.some.injEq] at hd
    have hi : i < n := by rw [← hn]; exact (List.getElem?_eq_some_iff.1 hxi).1
    have h1 := hel i hi
    rw [hc, Nat.mul_one, hxi] at h1
    have hil : i < cs.length := by
      apply Classical.byContradiction
      intro hge
      rw [List.drop_of_length_le (by omega)] at h1
      cases m with
      | zero => simp [DataW.trod] at h1
      | succ m =>
        have : P.cellsOf e = 1 := hc
        cases hu : P.underlying e with
        | none => simp [DataW.trod, hu] at h1
        | some k => cases k <;> simp [DataW.trod, hu] at h1 <;> (try omega)
    rw [List.drop_eq_getElem_cons hil] at h1
    simp only [List.take_succ_cons, List.take_zero] at h1
    exact ⟨cs[i], m, y.2, List.getElem?_eq_getElem hil, by rw [h1, ← hd]⟩
theorem laidMetH.plain {l : List (String × DataW Unit)} (h : laidMetH P l W) (hne : (l.filter fun x => x.2.handleName?.isSome).isEmpty = false) : laidMet P (l.filter fun x => x.2.handleName?.isNone) W := by
  unfold laidMetH at h
  generalize (l.filter fun x => x.2.handleName?.isSome) = fl at h hne
  cases fl with
  | nil => cases hne
  | cons a r => exact h.1
end
/-- The door's own heap meets the condition. -/
abbrev doorN : Nat := 19
abbrev doorK : Nat := 8
theorem door_met (os : Os) (args : Array Value) : laidMetH Tryz.prog laidL ((World.doorLaid Tryz.prog doorN os).forCall (fun _ _ => 0) ⟨#[], args, []⟩).memory :=
  laidMetH_of_parts3 (fuel := 8) (laidMet_of_run' 8 (by kernel_rfl) (by kernel_rfl)) (by kernel_rfl) (by kernel_rfl)
theorem of_laid {W : World} (h : laidMetH Tryz.prog laidL W) : GlOk Gv W := by
  have h0 : laidMet Tryz.prog [("math/bits.deBruijn64tab", Rows.laid_math_bits_deBruijn64tab)] W := laidMetH.plain h (by kernel_rfl)
  obtain ⟨ps, ⟨g0, t0, cs0, f0, p0, q0, hg0, ht0, hv0, hd0, _⟩, _, _⟩ := h0
  obtain ⟨g1, t1, cs1, f1, p1, hg1, ht1, hv1, hd1⟩ := h.funcs (d := .agg [.iface "func" (.lit (.string [114, 101, 99, 107, 111, 110, 101, 114, 47, 102, 105, 110, 46, 109, 111, 114, 101, 36, 49])), .iface "func" (.lit (.string [114, 101, 99, 107, 111, 110, 101, 114, 47, 102, 105, 110, 46, 109, 111, 114, 101, 36, 50])), .iface "func" (.lit (.string [114, 101, 99, 107, 111, 110, 101, 114, 47, 102, 105, 110, 46, 109, 111, 114, 101, 36, 51])), .iface "func" (.lit (.string [114, 101, 99, 107, 111, 110, 101, 114, 47, 102, 105, 110, 46, 109, 111, 114, 101, 36, 52])), .iface "func" (.lit (.string [114, 101, 99, 107, 111, 110, 101, 114, 47, 102, 105, 110, 46, 109, 111, 114, 101, 36, 53]))]) (n := "reckoner/fin.more") (List.mem_cons_of_mem _ (List.mem_singleton.2 rfl))
  obtain rfl := Option.some.inj (g0_name.symm.trans hg0)
  obtain rfl := Option.some.inj (g1_name.symm.trans hg1)
  have e0 : (Rows.laid_math_bits_deBruijn64tab : DataW Unit) = .agg (Lib.deBruijn64tab.map fun k => .lit (.int .u8 (k : Nat))) := by kernel_rfl
  rw [e0] at hd0
  obtain rfl := Option.some.inj ((show (Tryz.prog.globals[1]?).map (·.type) = some 190 by kernel_rfl).symm.trans ht0)
  obtain rfl := Option.some.inj ((show (Tryz.prog.globals[0]?).map (·.type) = some 184 by kernel_rfl).symm.trans ht1)
  intro b off x hx
  match b, hx with
  | 1, hx =>
    simp only [Gv, List.getElem?_map] at hx
    cases hk : Lib.deBruijn64tab[off]? with
    | none => simp [hk] at hx
    | some k =>
      simp only [hk, Option.map_some, Option.some.injEq] at hx; subst hx
      obtain ⟨v, m, q, h1, h2⟩ := array_at Tryz.underlying190 (by kernel_rfl) hd0 (i := off) (d := .lit (.int .u8 (k : Nat))) (by simp [hk])
      obtain ⟨z, h3, h4, _⟩ := DataW.trod_int Tryz.underlying5 h2
      simp only [List.cons.injEq, and_true, Prod.mk.injEq, DataW.lit.injEq, Lit.int.injEq, true_and] at h3 h4
      subst h3
      refine ⟨rfl, .int .u8 z, ?_, fun E => ?_⟩
      · rw [World.var?_cell hg0 hv0 off]; simpa using h1
      · show Value.int .u8 z = .int .u8 (k : Nat)
        rw [h4.1]
  | 0, hx =>
    have hd1 : DataW.trod (funcToken Tryz.prog) Tryz.prog W 0 (fun _ => true) true f1 184 cs1.toList = some (.agg [.held [114, 101, 99, 107, 111, 110, 101, 114, 47, 102, 105, 110, 46, 109, 111, 114, 101, 36, 49], .held [114, 101, 99, 107, 111, 110, 101, 114, 47, 102, 105, 110, 46, 109, 111, 114, 101, 36, 50], .held [114, 101, 99, 107, 111, 110, 101, 114, 47, 102, 105, 110, 46, 109, 111, 114, 101, 36, 51], .held [114, 101, 99, 107, 111, 110, 101, 114, 47, 102, 105, 110, 46, 109, 111, 114, 101, 36, 52], .held [114, 101, 99, 107, 111, 110, 101, 114, 47, 102, 105, 110, 46, 109, 111, 114, 101, 36, 53]], p1) := hd1
    have hF : ∀ {i : Nat} {by_ : UInt8} {r : List UInt8} {f0 : FuncId}, (([DataW.held (H := List UInt8) [114, 101, 99, 107, 111, 110, 101, 114, 47, 102, 105, 110, 46, 109, 111, 114, 101, 36, 49], .held [114, 101, 99, 107, 111, 110, 101, 114, 47, 102, 105, 110, 46, 109, 111, 114, 101, 36, 50], .held [114, 101, 99, 107, 111, 110, 101, 114, 47, 102, 105, 110, 46, 109, 111, 114, 101, 36, 51], .held [114, 101, 99, 107, 111, 110, 101, 114, 47, 102, 105, 110, 46, 109, 111, 114, 101, 36, 52], .held [114, 101, 99, 107, 111, 110, 101, 114, 47, 102, 105, 110, 46, 109, 111, 114, 101, 36, 53]]))[i]? = some (.held (by_ :: r)) → ((List.range Tryz.prog.funcs.size).filter fun f => (Tryz.prog.funcs[f]?).any (·.name.toUTF8.data.toList == by_ :: r)) = [f0] → (Ce.f f0).pure = true ∧ ∃ v, W.cell? ⟨0, i, Option.none⟩ = some v ∧ ∀ E, RC E (.f f0) v := fun {i by_ r f0} hi hone => by
      obtain ⟨v, m, q, h1, h2⟩ := array_at Tryz.underlying184 (by kernel_rfl) hd1 hi
      obtain rfl := func_of_trod (f0 := f0) Tryz.underlying183 hone h2
      refine ⟨rfl, .func (.func f0) #[] #[], ?_, fun E => rfl⟩
      rw [World.var?_cell hg1 hv1 i]; simpa using h1
    rcases off with _ | _ | _ | _ | _ | off
    · simp only [Gv] at hx
      obtain rfl : Ce.f 188 = x := Option.some.inj hx
      exact hF (i := 0) rfl (by kernel_rfl)
    · simp only [Gv] at hx
      obtain rfl : Ce.f 189 = x := Option.some.inj hx
      exact hF (i := 1) rfl (by kernel_rfl)
    · simp only [Gv] at hx
      obtain rfl : Ce.f 190 = x := Option.some.inj hx
      exact hF (i := 2) rfl (by kernel_rfl)
    · simp only [Gv] at hx
      obtain rfl : Ce.f 191 = x := Option.some.inj hx
      exact hF (i := 3) rfl (by kernel_rfl)
    · simp only [Gv] at hx
      obtain rfl : Ce.f 192 = x := Option.some.inj hx
      exact hF (i := 4) rfl (by kernel_rfl)
    · simp [Gv] at hx
  | b + 2, hx => simp [Gv] at hx
set_option maxRecDepth 100000
/-- A format among the arguments. -/
theorem arg_fm {H : Type} {enc : TypeId × Value → H} {W : World} {b0 : Nat} {sp : Nat → Bool} {held : Bool} {v : Value} {d : DataW H} {ps : List MemPlace} (hval : Value.okWide Tryz.prog W .any b0 23 v) (h : DataW.Trod enc Tryz.prog W 0 sp held 23 v d ps) : ∃ f p, RP (enA W fun b => b < W.heap.size) (Fm f p) v := by
  obtain ⟨ces, h1, h2⟩ := open_struct (ok := fun b => b < W.heap.size) (f := 2) (cts := [.i .i64, .i .i64]) (fun _ h => h) Tryz.underlying23 (by kernel_rfl) hval h
  cases h2 with | cons g h2 => cases h2 with | cons g' h2 => cases h2 with | nil =>
  obtain ⟨e, rfl, _⟩ := g
  obtain ⟨p, rfl, _⟩ := g'
  exact ⟨e, p, h1⟩
theorem cells_fl {ces : List Ce} (h2 : All2 CtIs [.i .i64, .b, .i .i64, .w] ces) : ∃ x : Fla, x.cs = ces ∧ Ws x.m ∧ I64 x.e := by
  cases h2 with | cons g1 h2 => cases h2 with | cons g2 h2 => cases h2 with | cons g3 h2 => cases h2 with | cons g4 h2 => cases h2 with | nil =>
  obtain ⟨k, rfl, _⟩ := g1
  obtain ⟨n, rfl⟩ := g2
  obtain ⟨e, rfl, he⟩ := g3
  obtain ⟨m, rfl, hm⟩ := g4
  exact ⟨⟨k, n, e, m⟩, rfl, hm, wf_i64 he⟩
/-- A float among the arguments. -/
theorem arg_fl {H : Type} {enc : TypeId × Value → H} {W : World} {b0 : Nat} {sp : Nat → Bool} {held : Bool} {v : Value} {d : DataW H} {ps : List MemPlace} (hval : Value.okWide Tryz.prog W .any b0 29 v) (h : DataW.Trod enc Tryz.prog W 0 sp held 29 v d ps) : ∃ x : Fla, Ws x.m ∧ I64 x.e ∧ RP (enA W fun b => b < W.heap.size) (Fl x.k x.n x.e x.m) v := by
  obtain ⟨ces, h1, h2⟩ := open_struct (ok := fun b => b < W.heap.size) (f := 2) (cts := [.i .i64, .b, .i .i64, .w]) (fun _ h => h) Tryz.underlying29 (by kernel_rfl) hval h
  obtain ⟨x, rfl, hx⟩ := cells_fl h2
  exact ⟨x, hx.1, hx.2, h1⟩
/-- Floats among the arguments. -/
theorem arg_fls {H : Type} {enc : TypeId × Value → H} {W : World} {b0 : Nat} {sp : Nat → Bool} {held : Bool} {v : Value} {d : DataW H} {ps : List MemPlace} (hval : Value.okWide Tryz.prog W .any b0 48 v) (h : DataW.Trod enc Tryz.prog W 0 sp held 48 v d ps) : ∃ l : List Fla, (∀ x ∈ l, Ws x.m ∧ I64 x.e) ∧ RP (enA W fun b => b < W.heap.size) (Rows l) v := by
  obtain ⟨rows, h1, h2⟩ := open_structs (ok := fun b => b < W.heap.size) (f := 2) (cts := [.i .i64, .b, .i .i64, .w]) (fun _ h => h) Tryz.underlying48 (by kernel_rfl) (by kernel_rfl) (by decide) hval h
  have : ∃ l : List Fla, l.map Fla.cs = rows ∧ ∀ x ∈ l, Ws x.m ∧ I64 x.e := by
    clear h1
    induction rows with
    | nil => exact ⟨[], rfl, by simp⟩
    | cons r rows ih =>
      obtain ⟨l, e, hl⟩ := ih fun r hr => h2 r (List.mem_cons_of_mem _ hr)
      have hr := h2 r (by simp)
      obtain ⟨y, rfl, hy⟩ := cells_fl hr
      exact ⟨y :: l, by simp [e], fun x hx => by
          rcases List.mem_cons.1 hx with rfl | hx
          · exact hy
          · exact hl x hx⟩
  obtain ⟨l, rfl, hl⟩ := this
  exact ⟨l, hl, h1⟩
/-- What a law that returns true leaves. -/
theorem law_calls {f : FuncId} {fn : Func} {c : Code} {args : List PV} {W : World} {vals : List Value} (h : Does Tryz.prog Gv f args (.v (.c (.b true)))) (hf : Tryz.prog.funcs[f]? = some fn) (hname : (fn.name == "runtime.NumGoroutine") = false) (hb : fn.body = some c) (hg : GlOk Gv W) (ha : All2 (RP (enA W fun b => b < W.heap.size)) args vals) :
    Calls Tryz.prog f vals.toArray W (fun e W' => e = .returned (.bool true) ∧ Below W.heap.size W W') :=
  (h.toCalls hf hname hb (fun _ h => h) hg ha).mono fun e W' ⟨v, he, hb, hr⟩ => by
    have : v = .bool true := hr
    subst this
    exact ⟨he, hb⟩
end Go.Proofs.YtdaecibpkhcllaaGreatDoor
/- Rounding to the nearest: how near, and when exactly. No condition. -/
namespace Go.Proofs.YtdaecibpkhcllaaGreatDoor
set_option linter.unusedVariables false
set_option linter.unusedSimpArgs false
set_option maxHeartbeats 4000000
set_option maxRecDepth 10000
theorem near_cut (v k : Nat) (n : Bool) {q : Nat} (hq : upP 0 n (cutP v ((k : Int) + 1) false).1 (cutP v ((k : Int) + 1) false).2 = q) : 2 * v ≤ 2 * (q * 2 ^ (k + 1)) + 2 ^ (k + 1) ∧ 2 * (q * 2 ^ (k + 1)) ≤ 2 * v + 2 ^ (k + 1) := by
  have e1 : ((k : Int) + 1).toNat = k + 1 := by omega
  have e2 : ((k : Int) + 1 - 1).toNat = k := by omega
  rw [cutP, if_neg (by omega), e1, e2] at hq
  simp only [Bool.false_or] at hq
  have h1 : v / 2 ^ k = 2 * (v / 2 ^ (k + 1)) + v / 2 ^ k % 2 := by
    have := Nat.div_add_mod (v / 2 ^ k) 2
    rw [Nat.div_div_eq_div_mul, ← Nat.pow_succ] at this
    exact this.symm
  have h2 := Nat.div_add_mod v (2 ^ k)
  have h3 := Nat.mod_lt v (Nat.pow_pos (n := k) (show 0 < 2 by decide))
  have hP : 2 ^ (k + 1) = 2 * 2 ^ k := Nat.pow_succ'
  generalize v / 2 ^ (k + 1) = c at *
  have h4 : v / 2 ^ k % 2 = 0 ∨ v / 2 ^ k % 2 = 1 := by omega
  generalize v / 2 ^ k % 2 = b at *
  generalize v / 2 ^ k = d at *
  generalize v % 2 ^ k = l at *
  rw [hP]
  generalize 2 ^ k = H at *
  have key : v = 2 * (c * H) + b * H + l := by
    rw [← h2, h1, Nat.mul_add, Nat.mul_comm H b, ← Nat.mul_assoc, Nat.mul_comm H 2, Nat.mul_assoc, Nat.mul_comm H c]
  have hup : ∀ x, upP 0 n c x = c ∨ upP 0 n c x = c + 1 := fun x => by unfold upP; split <;> simp
  have hc : q = c ∨ q = c + 1 := by rw [← hq]; exact hup _
  have m0 : c * (2 * H) = 2 * (c * H) := by rw [← Nat.mul_assoc, Nat.mul_comm c 2, Nat.mul_assoc]
  have m1 : (c + 1) * (2 * H) = 2 * (c * H) + 2 * H := by rw [Nat.add_mul, m0, Nat.one_mul]
  rcases h4 with rfl | rfl
  · have : q = c := by rw [← hq]; by_cases hl : l = 0 <;> simp [upP, moreP, hl]
    subst this
    rw [m0]
    generalize q * H = X at *
    omega
  · by_cases hl : l = 0
    · rcases hc with rfl | rfl
      · rw [m0]
        generalize q * H = X at *
        omega
      · rw [m1]
        generalize c * H = X at *
        omega
    · have : q = c + 1 := by rw [← hq]; simp [upP, moreP, hl]
      subst this
      rw [m1]
      generalize c * H = X at *
      omega
theorem rcanon_scale (n : Bool) {v : Nat} (hv : 0 < v) (e : Int) (k : Nat) : rcanon ⟨1, n, e - k, v * 2 ^ k⟩ = rcanon ⟨1, n, e, v⟩ := by
  simp only [rcanon, if_true]
  rw [Nat.mul_comm v, tz_mul k hv, Nat.pow_add, Nat.mul_div_mul_left _ _ (Nat.pow_pos (by decide))]
  rw [show e - (k : Int) + ((k + tz v : Nat) : Int) = e + tz v by omega]
theorem mkP_rcanon {n : Bool} {q : Nat} {u : Int} (h : q ≠ 0) : mkP n q u = rcanon ⟨1, n, u, q⟩ := by simp [mkP, rcanon, h]
theorem upP_none (r : Int) (n : Bool) (q : Nat) : upP r n q 0 = q := by simp [upP, moreP]
/-- A float of the format is not changed. -/
theorem roundP_exact {f p r : Int} (hf : fmOk f p = true) {n : Bool} {w : Nat} {k : Int} (hw : 0 < w) (hk : 1 - gOfE f - (p - 1) ≤ k) (hb : (bl w : Int) ≤ p) (hg : k + bl w ≤ gOfE f + 1) : roundP f p r n w k false = (rcanon ⟨1, n, k, w⟩, 0) := by
  obtain ⟨b1, b2, b3, b4⟩ := fmOk_spec hf
  have hp := bl_pos hw
  have hu : stepP f p (k + bl w - 1) ≤ k := by unfold stepP; split <;> omega
  unfold roundP
  simp only []
  generalize stepP f p (k + bl w - 1) = u at *
  obtain ⟨j, hj⟩ : ∃ j : Nat, k - u = j := ⟨(k - u).toNat, by omega⟩
  have hc : cutP w (u - k) false = (w * 2 ^ j, 0) := by
    rw [cutP, if_pos (by omega), show (-(u - k)).toNat = j by omega]; rfl
  rw [hc]
  simp only [upP_none]
  have hbl := bl_mul_pow w j hw
  have hpos : 0 < w * 2 ^ j := Nat.mul_pos hw (Nat.pow_pos (by decide))
  rw [if_neg (by omega), if_pos trivial, mkP_rcanon (by omega), show u = k - j by omega, rcanon_scale n hw]
/-- How near a rounded number is. -/
theorem roundP_near {f p : Int} (hf : fmOk f p = true) {n : Bool} {V : Nat} {z : Int} (hz : z ≤ 1 - gOfE f - (p - 1)) (hV : 0 < V) (hk : (roundP f p 0 n V z false).1.k ≠ 2) : ∃ q j : Nat, 1 - gOfE f - (p - 1) ≤ z + j ∧ (z + j = 1 - gOfE f - (p - 1) ∨ 2 ^ (p.toNat - 1) * 2 ^ j ≤ V) ∧ 2 * V ≤ 2 * (q * 2 ^ j) + 2 ^ j ∧ 2 * (q * 2 ^ j) ≤ 2 * V + 2 ^ j ∧ (roundP f p 0 n V z false).1 = mkP n q (z + j) := by
  obtain ⟨b1, b2, b3, b4⟩ := fmOk_spec hf
  have hp := bl_pos hV
  have hlow : 2 ^ (bl V - 1) ≤ V := (bl_le _ _).1 (by omega)
  have hu : 1 - gOfE f - (p - 1) ≤ stepP f p (z + bl V - 1) ∧ (stepP f p (z + bl V - 1) = 1 - gOfE f - (p - 1) ∨ stepP f p (z + bl V - 1) = z + bl V - 1 - p + 1) := by unfold stepP; split <;> omega
  unfold roundP at hk ⊢
  simp only [] at hk ⊢
  generalize stepP f p (z + bl V - 1) = u at *
  obtain ⟨j, hj⟩ : ∃ j : Nat, u - z = j := ⟨(u - z).toNat, by omega⟩
  have hg : grP 0 n = false := rfl
  have hno : ¬ gOfE f < u + bl (upP 0 n (cutP V (u - z) false).1 (cutP V (u - z) false).2) - 1 := by
    intro h
    rw [if_pos h, hg] at hk
    exact hk rfl
  rw [if_neg hno]
  refine ⟨upP 0 n (cutP V (u - z) false).1 (cutP V (u - z) false).2, j, by omega, ?_, ?_, ?_, by rw [show z + (j : Int) = u by omega]⟩
  · rcases hu.2 with h | h
    · exact .inl (by omega)
    · right
      rw [← Nat.pow_add, show p.toNat - 1 + j = bl V - 1 by omega]
      exact hlow
  · rw [hj]
    cases j with
    | zero =>
      rw [show cutP V ((0 : Nat) : Int) false = (V, 0) by simp [cutP]]
      simp only [upP_none]; omega
    | succ k => exact (near_cut V k n rfl).1
  · rw [hj]
    cases j with
    | zero =>
      rw [show cutP V ((0 : Nat) : Int) false = (V, 0) by simp [cutP]]
      simp only [upP_none]; omega
    | succ k => exact (near_cut V k n rfl).2
theorem near_mult {V Q c : Int} {P : Nat} (h1 : 2 * V ≤ 2 * (Q * P) + P) (h2 : 2 * (Q * P) ≤ 2 * V + P) : (V - Q * P).natAbs ≤ (V - c * P).natAbs := by
  rcases Int.lt_trichotomy Q c with h | h | h
  · have : (Q + 1) * P ≤ c * P := Int.mul_le_mul_of_nonneg_right (by omega) (by omega)
    rw [Int.add_mul, Int.one_mul] at this
    generalize Q * (P : Int) = X at *
    generalize c * (P : Int) = Y at *
    omega
  · subst h; exact Nat.le_refl _
  · have : (c + 1) * P ≤ Q * P := Int.mul_le_mul_of_nonneg_right (by omega) (by omega)
    rw [Int.add_mul, Int.one_mul] at this
    generalize Q * (P : Int) = X at *
    generalize c * (P : Int) = Y at *
    omega
/-- A number over a low exponent, with few enough digits for the format. -/
structure OfF (f p z : Int) (A : Int) (w : Nat) (k : Int) : Prop where
  low : 1 - gOfE f - (p - 1) ≤ k
  few : (bl w : Int) ≤ p
  top : k + bl w ≤ gOfE f + 1
  abs : A.natAbs = w * 2 ^ (k - z).toNat
/-- Nothing of the format is nearer. -/
theorem near_le {f p z : Int} {V q j : Nat} {W : Int} {w : Nat} {k : Int} (hp : 2 ≤ p) (hz : z ≤ 1 - gOfE f - (p - 1)) (hj : z + j = 1 - gOfE f - (p - 1) ∨ 2 ^ (p.toNat - 1) * 2 ^ j ≤ V) (h1 : 2 * V ≤ 2 * (q * 2 ^ j) + 2 ^ j) (h2 : 2 * (q * 2 ^ j) ≤ 2 * V + 2 ^ j) (hW : OfF f p z W w k) : ((V : Int) - (q * 2 ^ j : Nat)).natAbs ≤ ((V : Int) - W).natAbs := by
  obtain ⟨a1, a2, a3, a4⟩ := hW
  have key : ∀ c : Int, ((V : Int) - (q * 2 ^ j : Nat)).natAbs ≤ ((V : Int) - c * (2 ^ j : Nat)).natAbs := fun c => by
    have := @near_mult V q c (2 ^ j) (by rw [← Int.natCast_mul]; omega) (by rw [← Int.natCast_mul]; omega)
    rwa [← Int.natCast_mul] at this
  by_cases hk : z + j ≤ k
  · have e1 : w * 2 ^ (k - z).toNat = w * 2 ^ (k - z - j).toNat * 2 ^ j := by
      rw [Nat.mul_assoc, ← Nat.pow_add]; congr 2; omega
    rw [e1] at a4
    rcases Int.natAbs_eq W with h | h
    · have := key (w * 2 ^ (k - z - j).toNat : Nat)
      rw [← Int.natCast_mul, ← a4, ← h] at this
      exact this
    · have := key (-(w * 2 ^ (k - z - j).toNat : Nat))
      rw [Int.neg_mul, ← Int.natCast_mul, ← a4, ← h] at this
      exact this
  · have h3 : 2 ^ (p.toNat - 1) * 2 ^ j ≤ V := by
      rcases hj with h | h
      · omega
      · exact h
    have h4 : w * 2 ^ (k - z).toNat ≤ 2 ^ (p.toNat - 1) * 2 ^ j := by
      have hb : w < 2 ^ p.toNat := (bl_lt _ _).1 (by omega)
      refine Nat.le_trans (Nat.mul_le_mul_right _ (Nat.le_of_lt hb)) ?_
      rw [← Nat.pow_add, ← Nat.pow_add]
      exact Nat.pow_le_pow_right (by decide) (by omega)
    have h5 := key (2 ^ (p.toNat - 1) : Nat)
    rw [← Int.natCast_mul] at h5
    generalize 2 ^ (p.toNat - 1) * 2 ^ j = M at *
    generalize w * 2 ^ (k - z).toNat = y at *
    generalize q * 2 ^ j = x at *
    omega
end Go.Proofs.YtdaecibpkhcllaaGreatDoor
/- What a rounded sum drops is a float of the format. No condition. -/
namespace Go.Proofs.YtdaecibpkhcllaaGreatDoor
set_option linter.unusedVariables false
set_option linter.unusedSimpArgs false
set_option maxHeartbeats 4000000
set_option maxRecDepth 10000
/-- The least exponent. -/
abbrev tiny (f p : Int) : Int := 1 - gOfE f - (p - 1)
theorem OfF.mul {f p z A : Int} {w : Nat} {k : Int} (h : OfF f p z A w k) {m : Int} (h1 : z ≤ m) (h2 : m ≤ k) : ∃ a : Int, A = a * ((2 ^ (m - z).toNat : Nat) : Int) := by
  have e : w * 2 ^ (k - z).toNat = w * 2 ^ (k - m).toNat * 2 ^ (m - z).toNat := by rw [pow_split h1 h2, Nat.mul_assoc]
  have h3 := h.abs
  rw [e] at h3
  rcases Int.natAbs_eq A with h | h
  · exact ⟨(w * 2 ^ (k - m).toNat : Nat), by rw [← Int.natCast_mul, ← h3]; exact h⟩
  · exact ⟨-((w * 2 ^ (k - m).toNat : Nat) : Int), by rw [Int.neg_mul, ← Int.natCast_mul, ← h3]; exact h⟩
theorem mult_zero {x : Int} {P : Nat} (h : 2 * (x * (P : Int)).natAbs ≤ P) (hP : 0 < P) : x = 0 := by
  rw [Int.natAbs_mul, Int.natAbs_natCast] at h
  rcases Nat.eq_zero_or_pos x.natAbs with h0 | h0
  · omega
  · have := Nat.mul_le_mul_right P h0
    omega
/-- A rounding to the nearest: V becomes q 2^j. -/
structure Near (f p z : Int) (V q j : Nat) : Prop where
  low : tiny f p ≤ z + j
  big : z + j = tiny f p ∨ 2 ^ (p.toNat - 1) * 2 ^ j ≤ V
  up : 2 * V ≤ 2 * (q * 2 ^ j) + 2 ^ j
  down : 2 * (q * 2 ^ j) ≤ 2 * V + 2 ^ j
theorem err_one {f p z : Int} {A B : Int} {wa wb : Nat} {ka kb : Int} (hp : 2 ≤ p) (hz : z ≤ tiny f p) (ha : OfF f p z A wa ka) (hb : OfF f p z B wb kb) (hk : ka ≤ kb) {V q j : Nat} {s : Bool} (hV : A + B = sgn s V) (hn : Near f p z V q j) : ∃ d : Nat, OfF f p z (A + B - sgn s (q * 2 ^ j)) d ka := by
  have hD : (A + B - sgn s (q * 2 ^ j)).natAbs = ((V : Int) - (q * 2 ^ j : Nat)).natAbs := by
    rw [hV]; unfold sgn
    generalize q * 2 ^ j = x
    split <;> omega
  have hW : OfF f p z (if s then -B else B) wb kb := ⟨hb.low, hb.few, hb.top, by have := hb.abs; split <;> omega⟩
  have h1 := near_le hp hz hn.big hn.up hn.down hW
  have hA : ((V : Int) - if s then -B else B).natAbs = A.natAbs := by
    unfold sgn at hV
    cases s <;> simp at hV ⊢ <;> omega
  rw [hA, ha.abs, ← hD] at h1
  have hlow := ha.low
  have htn : tiny f p = 1 - gOfE f - (p - 1) := rfl
  have hnl := hn.low
  by_cases hjk : ka ≤ z + j
  · obtain ⟨a, ea⟩ := ha.mul (m := ka) (by omega) (Int.le_refl _)
    obtain ⟨b, eb⟩ := hb.mul (m := ka) (by omega) hk
    have eq : q * 2 ^ j = q * 2 ^ (z + j - ka).toNat * 2 ^ (ka - z).toNat := by
      rw [Nat.mul_assoc, ← Nat.pow_add]; congr 2; omega
    have ez : sgn s (q * 2 ^ j) = sgn s (q * 2 ^ (z + j - ka).toNat) * ((2 ^ (ka - z).toNat : Nat) : Int) := by
      rw [eq]; unfold sgn; split
      · rw [Int.neg_mul, Int.natCast_mul]
      · rw [Int.natCast_mul]
    have eD : A + B - sgn s (q * 2 ^ j) = (a + b - sgn s (q * 2 ^ (z + j - ka).toNat)) * ((2 ^ (ka - z).toNat : Nat) : Int) := by
      rw [ez, Int.sub_mul, Int.add_mul, ← ea, ← eb]
    rw [eD, Int.natAbs_mul, Int.natAbs_natCast] at h1
    have hle := Nat.le_of_mul_le_mul_right h1 (Nat.pow_pos (by decide))
    have hbl := bl_mono hle
    exact ⟨(a + b - sgn s (q * 2 ^ (z + j - ka).toNat)).natAbs, hlow, by have := ha.few; omega, by have := ha.top; omega, by rw [eD, Int.natAbs_mul, Int.natAbs_natCast]⟩
  · have hj0 : (z + (j : Int) - z).toNat = j := by omega
    obtain ⟨a, ea⟩ := ha.mul (m := z + j) (by omega) (by omega)
    obtain ⟨b, eb⟩ := hb.mul (m := z + j) (by omega) (by omega)
    rw [hj0] at ea eb
    have eV : (V : Int) = ((a + b).natAbs : Int) * ((2 ^ j : Nat) : Int) := by
      have e1 : (A + B).natAbs = V := by rw [hV]; unfold sgn; split <;> omega
      rw [← e1, ea, eb, ← Int.add_mul, Int.natAbs_mul, Int.natAbs_natCast, Int.natCast_mul]
    have eX : (V : Int) - (q * 2 ^ j : Nat) = (((a + b).natAbs : Int) - q) * ((2 ^ j : Nat) : Int) := by
      rw [Int.sub_mul, ← eV, Int.natCast_mul]
    have h0 := @mult_zero (((a + b).natAbs : Int) - q) (2 ^ j) (by rw [← eX]; have := hn.up; have := hn.down; generalize q * 2 ^ j = x at *; omega) (Nat.pow_pos (by decide))
    refine ⟨0, hlow, by rw [bl_zero]; omega, by rw [bl_zero]; have := ha.top; omega, ?_⟩
    rw [hD, eX, h0]; simp
/-- What a rounded sum of two drops. -/
theorem err_two {f p z : Int} {A B : Int} {wa wb : Nat} {ka kb : Int} (hp : 2 ≤ p) (hz : z ≤ tiny f p) (ha : OfF f p z A wa ka) (hb : OfF f p z B wb kb) {V q j : Nat} {s : Bool} (hV : A + B = sgn s V) (hn : Near f p z V q j) : ∃ (d : Nat) (k : Int), OfF f p z (A + B - sgn s (q * 2 ^ j)) d k := by
  by_cases hk : ka ≤ kb
  · obtain ⟨d, hd⟩ := err_one hp hz ha hb hk hV hn
    exact ⟨d, ka, hd⟩
  · obtain ⟨d, hd⟩ := err_one hp hz hb ha (by omega) (by rw [Int.add_comm]; exact hV) hn
    rw [Int.add_comm B A] at hd
    exact ⟨d, kb, hd⟩
/-- The canonical float with a value, the Zero without a sign. -/
def restP (z D : Int) : Flt := if D = 0 then ⟨0, false, 0, 0⟩ else rcanon ⟨1, decide (D < 0), z, D.natAbs⟩
/-- A number of the format is rounded to itself. -/
theorem round_exact {f p z r : Int} (hf : fmOk f p = true) (hz : z ≤ tiny f p) {D : Int} {d : Nat} {k : Int} (h : OfF f p z D d k) : Nu.round ⟨decide (D < 0), D.natAbs, z⟩ f p r false = (restP z D, 0) := by
  unfold Nu.round restP
  simp only []
  by_cases hD : D = 0
  · rw [if_pos (by omega), if_pos hD]
  · rw [if_neg (by omega), if_neg hD]
    have hlow := h.low
    have htn : tiny f p = 1 - gOfE f - (p - 1) := rfl
    have hd : 0 < d := by
      rcases Nat.eq_zero_or_pos d with h0 | h0
      · have := h.abs; rw [h0, Nat.zero_mul] at this; omega
      · exact h0
    rw [h.abs, show z = k - ((k - z).toNat : Int) by omega, show (k - (k - ((k - z).toNat : Int))).toNat = (k - z).toNat by omega, roundP_scale _ hd, rcanon_scale _ hd]
    exact roundP_exact hf hd hlow h.few h.top
/-- The value of a float over a low exponent. -/
def fv (z : Int) (x : Flt) : Int := if x.k = 1 then Nu.sv z ⟨x.n, x.v, x.e⟩ else 0
theorem svs_fv (z : Int) (l : List Flt) : svs z l = (l.map (fv z)).sum := by
  induction l with
  | nil => rfl
  | cons x l ih => simp only [svs, List.map_cons, List.sum_cons, ih]; rfl
theorem mkP_fv {n : Bool} {q j : Nat} {z : Int} : fv z (mkP n q (z + j)) = sgn n (q * 2 ^ j) := by
  unfold mkP fv
  by_cases hq : q = 0
  · simp [hq, sgn]
  · rw [if_neg hq]
    simp only [if_true]
    have hv : q / 2 ^ tz q * 2 ^ (z + j + tz q - z).toNat = q * 2 ^ j := by
      obtain ⟨m, hm⟩ := tz_form (show 0 < q by omega)
      have e1 : q / 2 ^ tz q = 2 * m + 1 := by
        conv => lhs; arg 1; rw [hm]
        exact Nat.mul_div_cancel_left _ (Nat.pow_pos (by decide))
      rw [e1, show (z + (j : Int) + tz q - z).toNat = tz q + j by omega, Nat.pow_add, ← Nat.mul_assoc]
      congr 1
      conv => rhs; rw [hm]
      exact Nat.mul_comm _ _
    unfold Nu.sv sgn
    simp only [hv]
theorem fv_neg (z : Int) (x : Flt) : fv z x.neg = - fv z x := by
  unfold fv Flt.neg
  by_cases h : x.k = 1
  · simp only [h, if_true]
    unfold Nu.sv
    cases x.n <;> simp
  · simp [h]
/-- A float of the format, as it is held. -/
theorem held_ofF {f p : Int} (hf : fmOk f p = true) {x : Flt} (h : (holdsP f p x).2 = true) : ∃ (w : Nat) (k : Int), OfF f p (tiny f p) (fv (tiny f p) (holdsP f p x).1) w k := by
  obtain ⟨b1, b2, b3, b4⟩ := fmOk_spec hf
  obtain ⟨b5, b6⟩ := gOfE_le b1 b2
  have htn : tiny f p = 1 - gOfE f - (p - 1) := rfl
  unfold holdsP at h ⊢
  unfold fv
  split at h
  · rename_i hc
    rw [if_pos hc]
    have hk : ¬ (canon x).1.k = 1 := by
      rcases hc with hc | hc
      · rw [h] at hc; cases hc
      · exact hc
    rw [if_neg hk]
    exact ⟨0, tiny f p, Int.le_refl _, by rw [bl_zero]; omega, by rw [bl_zero]; omega, by simp⟩
  · rename_i hc
    rw [if_neg hc]
    simp only [not_or, Decidable.not_not] at hc
    simp only [Bool.and_eq_true, decide_eq_true_eq] at h
    simp only [hc.2, if_true]
    refine ⟨(canon x).1.v, (canon x).1.e, h.1.2, h.1.1, by omega, ?_⟩
    unfold Nu.sv
    simp only []
    split
    · rw [Int.natAbs_neg, Int.natAbs_natCast]
    · rw [Int.natAbs_natCast]
end Go.Proofs.YtdaecibpkhcllaaGreatDoor
