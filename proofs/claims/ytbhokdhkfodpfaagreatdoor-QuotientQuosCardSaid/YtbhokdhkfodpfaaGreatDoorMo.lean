/- Roots of floats, by the program. No condition. Remainders of floats, by the program. No condition. -/
import Derived.Test.YtbhokdhkfodpfaaGreatDoorMn
import Derived.Test.YtbhokdhkfodpfaaGreatDoorMm
import Derived.Test.YtbhokdhkfodpfaaGreatDoorMi
/- Roots of floats, by the program. No condition. -/
namespace Go.Proofs.YtbhokdhkfodpfaaGreatDoor
set_option linter.unusedVariables false
set_option linter.unusedSimpArgs false
set_option maxHeartbeats 8000000
set_option maxRecDepth 10000
/-- How far a number is moved ahead of its root. -/
def rootS (p : Int) (v : Nat) (e : Int) (k : Nat) : Nat :=
  ((k * (p + 3) - bl v).toNat + ((e - ((k * (p + 3) - bl v).toNat : Nat)) % (k : Int)).toNat)
theorem emod_go {a k : Int} (hk : 0 < k) : ((a.tmod k) + k).tmod k = a % k := by
  have h1 := Int.emod_nonneg a (show k ≠ 0 by omega)
  have h2 := Int.emod_lt_of_pos a hk
  by_cases h : 0 ≤ a
  · rw [Int.tmod_eq_emod_of_nonneg h, Int.tmod_eq_emod_of_nonneg (by omega), Int.add_emod_right, Int.emod_emod]
  · have h3 : a.tmod k = -((-a) % k) := by
      have e : a.tmod k = -((-a).tmod k) := by rw [Int.neg_tmod, Int.neg_neg]
      rw [e, Int.tmod_eq_emod_of_nonneg (by omega)]
    have h4 := Int.emod_nonneg (-a) (show k ≠ 0 by omega)
    have h5 := Int.emod_lt_of_pos (-a) hk
    rw [h3, Int.tmod_eq_emod_of_nonneg (by omega)]
    have e2 : -(-a % k) + k = a + k * ((-a) / k + 1) := by
      have := Int.emod_add_mul_ediv (-a) k
      rw [Int.mul_add, Int.mul_one]
      omega
    rw [e2, Int.add_mul_emod_self_left]
theorem rootS_dvd {p : Int} {v : Nat} {e : Int} {k : Nat} (hk : 0 < k) : (e - (rootS p v e k : Nat)) % (k : Int) = 0 := by
  unfold rootS
  have h1 := Int.emod_nonneg (e - (((k * (p + 3) - bl v).toNat : Nat) : Int)) (show (k : Int) ≠ 0 by omega)
  obtain ⟨s0, hs⟩ : ∃ s0 : Nat, (k * (p + 3) - bl v).toNat = s0 := ⟨_, rfl⟩
  rw [hs] at h1 ⊢
  have e1 : e - ((s0 + ((e - (s0 : Int)) % (k : Int)).toNat : Nat) : Int) = (e - s0) - (e - s0) % (k : Int) := by omega
  rw [e1]
  exact Int.emod_eq_zero_of_dvd (Int.dvd_self_sub_emod)
theorem qroot_does {f p r : Int} (hf : fmOk f p = true) (hr : 0 ≤ r) (hr' : r ≤ 4) {n : Bool} {v : Nat} {e : Int} {k m : Nat} (hv : 0 < v) (hb : bl v ≤ 100000) (he : -1000000 ≤ e ∧ e ≤ 1000000) (hk : 2 ≤ k) (hk2 : k ≤ 16) (h1 : m ^ k ≤ v * 2 ^ rootS p v e k) (h2 : v * 2 ^ rootS p v e k < (m + 1) ^ k) :
    Does Tryz.prog Gv 87 [Fm f p, .c (.i .i64 r), .c (.b n), Wd (nat v), .c (.i .i64 e), .c (.i .i64 k)] (.t [(roundP f p r n m ((e - rootS p v e k) / k) (!decide (m ^ k = v * 2 ^ rootS p v e k))).1.pv, .c (.i .i64 (roundP f p r n m ((e - rootS p v e k) / k) (!decide (m ^ k = v * 2 ^ rootS p v e k))).2)]) := by
  obtain ⟨b1, b2, b3, b4⟩ := fmOk_spec hf
  have lv := len_bl hb
  have hL := @Len_does Gv (nat v) (by unfold Sh; omega) (nat_ws _)
  rw [val_nat] at hL
  have hkp : (k : Int) * (p + 3) ≤ 16 * 259 := Int.mul_le_mul (by omega) (by omega) (by omega) (by omega)
  have hkp0 : 0 ≤ (k : Int) * (p + 3) := Int.mul_nonneg (by omega) (by omega)
  have hdv := @rootS_dvd p v e k (by omega)
  have hS0 : rootS p v e k = ((k * (p + 3) - bl v).toNat + ((e - ((k * (p + 3) - bl v).toNat : Nat)) % (k : Int)).toNat) := rfl
  obtain ⟨s0, hs0⟩ : ∃ s0 : Nat, (k * (p + 3) - bl v).toNat = s0 := ⟨_, rfl⟩
  rw [hs0] at hS0
  have hm1 := Int.emod_nonneg (e - (s0 : Int)) (show (k : Int) ≠ 0 by omega)
  have hm2 := Int.emod_lt_of_pos (e - (s0 : Int)) (show (0 : Int) < (k : Int) by omega)
  have hgo := @emod_go (e - (s0 : Int)) (k : Int) (by omega)
  obtain ⟨s, hs⟩ : ∃ s, rootS p v e k = s := ⟨_, rfl⟩
  rw [hs] at h1 h2 hdv hS0 ⊢
  have hsI : (s0 : Int) + (e - (s0 : Int)) % (k : Int) = s := by omega
  have hsb : s ≤ 5000 := by omega
  have hmax : (if ((bl v : Nat) : Int) < (k : Int) * (p + 3) then (k : Int) * (p + 3) - bl v else 0) = s0 := by split <;> omega
  have htb : -16 ≤ (e - (s0 : Int)).tmod (k : Int) ∧ (e - (s0 : Int)).tmod (k : Int) ≤ 16 := by
    have q1 := Int.tmod_lt_of_pos (e - (s0 : Int)) (show (0 : Int) < (k : Int) by omega)
    have q2 : -(k : Int) < (e - (s0 : Int)).tmod (k : Int) := by
      by_cases h : 0 ≤ e - (s0 : Int)
      · rw [Int.tmod_eq_emod_of_nonneg h]; omega
      · have e3 : (e - (s0 : Int)).tmod (k : Int) = -((-(e - (s0 : Int))).tmod (k : Int)) := by rw [Int.neg_tmod, Int.neg_neg]
        rw [e3, Int.tmod_eq_emod_of_nonneg (by omega)]
        have := Int.emod_lt_of_pos (-(e - (s0 : Int))) (show (0 : Int) < (k : Int) by omega)
        omega
    omega
  have w1 : IntKind.i64.wrap (e - (s0 : Int)) = e - s0 := wrap_in (by rw [inK_i64]; constructor <;> omega)
  have w2 : IntKind.i64.wrap ((e - (s0 : Int)).tmod (k : Int)) = (e - (s0 : Int)).tmod (k : Int) := wrap_in (by rw [inK_i64]; constructor <;> omega)
  have w3 : IntKind.i64.wrap ((e - (s0 : Int)).tmod (k : Int) + (k : Int)) = (e - (s0 : Int)).tmod (k : Int) + k := wrap_in (by rw [inK_i64]; constructor <;> omega)
  have w4 : IntKind.i64.wrap ((e - (s0 : Int)) % (k : Int)) = (e - (s0 : Int)) % (k : Int) := wrap_in (by rw [inK_i64]; constructor <;> omega)
  have w5 : IntKind.i64.wrap (s : Int) = s := wrap_in (by rw [inK_i64]; constructor <;> omega)
  have w6 : IntKind.i64.wrap (e - (s : Int)) = e - s := wrap_in (by rw [inK_i64]; constructor <;> omega)
  have hSh := @Shl_does Gv (nat v) (by unfold Sh; omega) (nat_ws _) s (by omega)
  rw [val_nat] at hSh
  have hbl : bl (v * 2 ^ s) = s + bl v := bl_mul_pow _ _ hv
  have lsh := len_bl (show bl (v * 2 ^ s) ≤ 105000 by omega)
  have hpos : 0 < v * 2 ^ s := Nat.mul_pos hv (two_pos' s)
  have hR := @WRoot_does (nat (v * 2 ^ s)) k m (by omega) (nat_ws _) hk hk2 (by rw [val_nat]; exact hpos) (by rw [val_nat]; exact h1) (by rw [val_nat]; exact h2)
  rw [val_nat] at hR
  have hmb : bl m ≤ 105000 := by
    have h3 : m ≤ v * 2 ^ s := by
      refine Nat.le_trans ?_ h1
      exact Nat.le_self_pow (by omega) m
    have := bl_mono h3
    omega
  have hquo : (e - (s : Int)).tdiv (k : Int) = (e - s) / (k : Int) := Int.tdiv_eq_ediv_of_dvd (Int.dvd_of_emod_eq_zero hdv)
  have hqb : -1100000 ≤ (e - (s : Int)) / (k : Int) ∧ (e - (s : Int)) / (k : Int) ≤ 1100000 := by
    have h3 := Int.mul_ediv_add_emod (e - (s : Int)) (k : Int)
    rw [hdv, Int.add_zero] at h3
    constructor
    · rw [Int.le_ediv_iff_mul_le (by omega)]
      have : -1100000 * (k : Int) ≤ -1100000 * 1 := Int.mul_le_mul_of_nonpos_left (by omega) (by omega)
      omega
    · have : (e - (s : Int)) / (k : Int) < 1100001 := by
        rw [Int.ediv_lt_iff_lt_mul (by omega)]
        have : 1100001 * 1 ≤ 1100001 * (k : Int) := Int.mul_le_mul_of_nonneg_left (by omega) (by omega)
        omega
      omega
  have w7 : IntKind.i64.wrap ((e - (s : Int)) / (k : Int)) = (e - (s : Int)) / (k : Int) := wrap_in (by rw [inK_i64]; constructor <;> omega)
  have hF := @Float_does f p r hf hr hr' n m ((e - (s : Int)) / (k : Int)) (!decide (m ^ k = v * 2 ^ s)) (by omega) (by omega)
  generalize decide (m ^ k = v * 2 ^ s) = ex at *
  generalize v * 2 ^ s = u at *
  generalize hQ : (e - (s : Int)) / (k : Int) = Q at *
  generalize roundP f p r n m Q (!ex) = z at *
  generalize hA : (k : Int) * (p + 3) = A at *
  refine Does.of (nt := 59) Tryz.func87 rfl rfl rfl (by simp) ?_
  simp only [argTm, PV.ext, Ce.ext]
  refine Do.seqk fun _ k1_ => ?_
  refine Do.region [1,2,3,4,5,6,12] true ?_
  simp [go_sem, hA, hmax, hgo, hsI, hquo, w1, w2, w3, w4, w5, w6, w7]
  apply k1_; clear k1_
  refine Do.seqk fun _ k2_ => ?_
  refine Do.draw [1,2,3,4,5,6,12,14] true (by kernel_rfl) ?_
  simp [go_sem, hA, hmax, hgo, hsI, hquo, w1, w2, w3, w4, w5, w6, w7]
  repeat (refine And.intro (by first | omega | (intros; omega) | kernel_rfl | grind) ?_)
  refine DoLD.call true 107 rfl rfl rfl rfl (by first | exact trivial | omega | (simp; done) | (simp; omega)) (hL) rfl (by first | exact .inl rfl | exact .inr rfl) rfl ?_
  simp [go_sem, hA, hmax, hgo, hsI, hquo, w1, w2, w3, w4, w5, w6, w7]
  repeat (refine And.intro (by first | omega | (intros; omega) | kernel_rfl | grind) ?_)
  try (refine And.intro (by kernel_rfl) ?_)
  apply k2_; clear k2_
  refine Do.seqk fun _ k3_ => ?_
  refine Do.region [1,2,3,4,5,6,12,14] false ?_
  simp [go_sem, hA, hmax, hgo, hsI, hquo, w1, w2, w3, w4, w5, w6, w7]
  repeat (refine And.intro (by first | omega | (intros; omega) | grind) ?_)
  apply k3_; clear k3_
  refine Do.seqk fun _ k4_ => ?_
  refine Do.region [1,2,4,5,6,12,14,15,16] true ?_
  simp [go_sem, hA, hmax, hgo, hsI, hquo, w1, w2, w3, w4, w5, w6, w7]
  refine DoL.call true 303 rfl rfl rfl rfl (by first | exact trivial | omega | (simp; done) | (simp; omega)) (hSh) rfl (by first | exact .inl rfl | exact .inr rfl) rfl ?_
  simp [go_sem, hA, hmax, hgo, hsI, hquo, w1, w2, w3, w4, w5, w6, w7]
  refine DoL.call true 305 rfl rfl rfl rfl (by first | exact trivial | omega | (simp; done) | (simp; omega)) (hR) rfl (by first | exact .inl rfl | exact .inr rfl) rfl ?_
  simp [go_sem, hA, hmax, hgo, hsI, hquo, w1, w2, w3, w4, w5, w6, w7]
  apply k4_; clear k4_
  refine Do.seqk fun _ k5_ => ?_
  refine Do.draw [12,13] false (by kernel_rfl) ?_
  simp [go_sem, hA, hmax, hgo, hsI, hquo, w1, w2, w3, w4, w5, w6, w7]
  repeat (refine And.intro (by first | omega | (intros; omega) | kernel_rfl | grind) ?_)
  refine DoLD.call true 412 rfl rfl rfl rfl (by first | exact trivial | omega | (simp; done) | (simp; omega)) (hF) rfl (by first | exact .inl rfl | exact .inr rfl) rfl ?_
  simp [go_sem, hA, hmax, hgo, hsI, hquo, w1, w2, w3, w4, w5, w6, w7]
  repeat (refine And.intro (by first | omega | (intros; omega) | kernel_rfl | grind) ?_)
  try (refine And.intro (by kernel_rfl) ?_)
  apply k5_; clear k5_
  refine Do.ret ?_
  simp [endQ, rets, ret1, go_sem, hA, hmax, hgo, hsI, hquo, w1, w2, w3, w4, w5, w6, w7]
  repeat (refine And.intro (by first | omega | (intros; omega) | grind) ?_)
  exact TLe.refl _
end Go.Proofs.YtbhokdhkfodpfaaGreatDoor
/- Remainders of floats, by the program. No condition. -/
namespace Go.Proofs.YtbhokdhkfodpfaaGreatDoor
set_option linter.unusedVariables false
set_option linter.unusedSimpArgs false
set_option maxHeartbeats 8000000
set_option maxRecDepth 10000
/-- The quotient of two floats, rounded to an integer. -/
def wholeF (r : Int) (x y : Flt) : Nat := upP r (x.n != y.n) (x.v * 2 ^ (x.e - y.e).toNat / (y.v * 2 ^ (y.e - x.e).toNat)) (cmpR (x.v * 2 ^ (x.e - y.e).toNat % (y.v * 2 ^ (y.e - x.e).toNat)) (y.v * 2 ^ (y.e - x.e).toNat))
/-- What is left of x, and what that is rounded to. -/
def restF (r : Int) (x y : Flt) : Nu := Nu.plus ⟨x.n, x.v, x.e⟩ ⟨!x.n, wholeF r x y * y.v, y.e⟩
theorem wholeF_does {r : Int} (hr : 0 ≤ r) (hr' : r ≤ 4) {x y : Flt} (bx : bl x.v ≤ 256) (by_ : bl y.v ≤ 256) (hy : 0 < y.v) (ex : -100000 ≤ x.e ∧ x.e ≤ 100000) (ey : -100000 ≤ y.e ∧ y.e ≤ 100000) : Does Tryz.prog Gv 66 [.c (.i .i64 r), x.pv, y.pv] (.v (Wn (nat (wholeF r x y)))) := by
  obtain ⟨xk, xn, xe, xv⟩ := x
  obtain ⟨yk, yn, ye, yv⟩ := y
  simp only at bx by_ hy ex ey
  unfold wholeF
  simp only
  have hbl : ∀ u j, bl u ≤ 256 → bl (u * 2 ^ j) ≤ j + 256 := fun u j h => by
    rcases Nat.eq_zero_or_pos u with h0 | h0
    · subst h0; rw [Nat.zero_mul, bl_zero]; omega
    · rw [bl_mul_pow _ _ h0]; omega
  have lx := len_bl bx
  have ly := len_bl by_
  have h1 := @Shl_does Gv (nat xv) (by unfold Sh; omega) (nat_ws _) (xe - ye).toNat (by omega)
  have h2 := @Shl_does Gv (nat yv) (by unfold Sh; omega) (nat_ws _) (ye - xe).toNat (by omega)
  rw [val_nat] at h1 h2
  have b1 := hbl xv (xe - ye).toNat bx
  have b2 := hbl yv (ye - xe).toNat by_
  have hQ := @QuotientR_does r hr hr' (xn != yn) (xv * 2 ^ (xe - ye).toNat) (yv * 2 ^ (ye - xe).toNat) (by omega) (by omega) (Nat.mul_pos hy (Nat.pow_pos (by decide)))
  rw [← show (if xe - ye < 0 then (0 : Int) else xe - ye) = ((xe - ye).toNat : Nat) by split <;> omega] at h1
  rw [← show (if ye < xe then (0 : Int) else -(xe - ye)) = ((ye - xe).toNat : Nat) by split <;> omega] at h2
  generalize decide (xv * 2 ^ (xe - ye).toNat % (yv * 2 ^ (ye - xe).toNat) = 0) = ex0 at *
  generalize upP r (xn != yn) (xv * 2 ^ (xe - ye).toNat / (yv * 2 ^ (ye - xe).toNat)) (cmpR (xv * 2 ^ (xe - ye).toNat % (yv * 2 ^ (ye - xe).toNat)) (yv * 2 ^ (ye - xe).toNat)) = w at *
  generalize xv * 2 ^ (xe - ye).toNat = X at *
  generalize yv * 2 ^ (ye - xe).toNat = Y at *
  refine Does.of (nt := 37) Tryz.func66 rfl rfl rfl (by simp) ?_
  simp only [argTm, PV.ext, Ce.ext]
  refine Do.seqk fun _ k1_ => ?_
  refine Do.region [0,4,5] true ?_
  simp [go_sem]
  apply k1_; clear k1_
  refine Do.seqk fun _ k2_ => ?_
  refine Do.region [0,4,5,7] true ?_
  simp [go_sem]
  repeat (refine And.intro (by first | omega | (intros; omega) | grind) ?_)
  apply k2_; clear k2_
  refine Do.seqk fun _ k3_ => ?_
  refine Do.draw [8] true (by kernel_rfl) ?_
  simp [go_sem]
  repeat (refine And.intro (by first | omega | (intros; omega) | kernel_rfl | grind) ?_)
  refine DoLD.call true 211 rfl rfl rfl rfl (by first | exact trivial | omega | (simp; done) | (simp; omega)) (h1) rfl (by first | exact .inl rfl | exact .inr rfl) rfl ?_
  simp [go_sem]
  repeat (refine And.intro (by first | omega | (intros; omega) | kernel_rfl | grind) ?_)
  refine DoLD.call true 217 rfl rfl rfl rfl (by first | exact trivial | omega | (simp; done) | (simp; omega)) (h2) rfl (by first | exact .inl rfl | exact .inr rfl) rfl ?_
  simp [go_sem]
  refine DoLD.call true 218 rfl rfl rfl rfl (by first | exact trivial | omega | (simp; done) | (simp; omega)) (hQ) rfl (by first | exact .inl rfl | exact .inr rfl) rfl ?_
  simp [go_sem]
  try (refine And.intro (by kernel_rfl) ?_)
  apply k3_; clear k3_
  refine Do.seqk fun _ k4_ => ?_
  refine Do.region [6] true ?_
  simp [go_sem]
  apply k4_; clear k4_
  refine Do.ret ?_
  simp [endQ, rets, ret1, go_sem]
  repeat (refine And.intro (by first | omega | (intros; omega) | grind) ?_)
  exact TLe.refl _
theorem wholeF_bl {r : Int} {x y : Flt} (bx : bl x.v ≤ 256) (ex : -100000 ≤ x.e ∧ x.e ≤ 100000) (ey : -100000 ≤ y.e ∧ y.e ≤ 100000) : bl (wholeF r x y) ≤ 200257 := by
  unfold wholeF
  have h1 := upP_bl r (x.n != y.n) (x.v * 2 ^ (x.e - y.e).toNat / (y.v * 2 ^ (y.e - x.e).toNat)) (cmpR (x.v * 2 ^ (x.e - y.e).toNat % (y.v * 2 ^ (y.e - x.e).toNat)) (y.v * 2 ^ (y.e - x.e).toNat))
  have h2 := bl_mono (Nat.div_le_self (x.v * 2 ^ (x.e - y.e).toNat) (y.v * 2 ^ (y.e - x.e).toNat))
  have h3 : bl (x.v * 2 ^ (x.e - y.e).toNat) ≤ (x.e - y.e).toNat + 256 := by
    rcases Nat.eq_zero_or_pos x.v with h0 | h0
    · rw [h0, Nat.zero_mul, bl_zero]; omega
    · rw [bl_mul_pow _ _ h0]; omega
  omega
theorem QRest_fin {f p r : Int} {x y : Fla} (hx : x.Ok) (hy : y.Ok) (he : argsE f p r false [x, y] = 0) {u v : Flt} (hu : (holdsP f p x.flt).1 = u) (hv : (holdsP f p y.flt).1 = v) (ku : u.k = 1) (kv : v.k = 1) :
    Does Tryz.prog Gv 59 [Fm f p, .c (.i .i64 r), Fl x.k x.n x.e x.m, Fl y.k y.n y.e y.m] (.t [((restF r u v).round f p r u.n).1.pv, .c (.i .i64 ((restF r u v).round f p r u.n).2), .c (.i .i64 0)]) := by
  have hl : [x, y].length < 1099511627776 := by simp
  have ho : ∀ u ∈ [x, y], u.Ok := by simp [hx, hy]
  have hA : DoesO Tryz.prog Gv 65 [Fm f p, .c (.i .i64 r), .c (.b false), .s false [x.cs, y.cs]] 4 [(holdsP f p x.flt).1.cs, (holdsP f p y.flt).1.cs] [.c (.i .i64 0)] := Args_own hl ho he
  obtain ⟨h1, h2, h3, h4, h5, h6⟩ := argsE_zero he
  have hhx : (holdsP f p x.flt).2 = true := by simpa using List.all_eq_true.1 h6 x (by simp)
  have hhy : (holdsP f p y.flt).2 = true := by simpa using List.all_eq_true.1 h6 y (by simp)
  have sx := held_small h5 hhx
  have sy := held_small h5 hhy
  have cy := held_cf hhy
  rw [hu] at sx hA
  rw [hv] at sy cy hA
  have pv := Nat.pos_of_ne_zero (cy.pos kv)
  have hW := @wholeF_does r h2 h3 u v sx.2.2.1 sy.2.2.1 pv ⟨sx.1, sx.2.1⟩ ⟨sy.1, sy.2.1⟩
  have hwb := @wholeF_bl r u v sx.2.2.1 ⟨sx.1, sx.2.1⟩ ⟨sy.1, sy.2.1⟩
  have hmb := bl_mul_le (wholeF r u v) v.v
  have lw := len_bl hwb
  have lv := len_bl sy.2.2.1
  have hT := @NTimes_does Gv ⟨u.n == v.n, wholeF r u v, 0⟩ ⟨v.n, v.v, v.e⟩ (by show (nat (wholeF r u v)).length < _; omega) (by show (nat v.v).length < _; omega) (by constructor <;> simp) (by constructor <;> simp only [] <;> omega)
  have oa : (Nu.mk u.n u.v u.e).Ok := ⟨by show -4194304 ≤ u.e; omega, by show u.e + bl u.v ≤ 4194304; omega⟩
  have ob : (Nu.mk (!u.n) (wholeF r u v * v.v) v.e).Ok := ⟨by show -4194304 ≤ v.e; omega, by show v.e + bl (wholeF r u v * v.v) ≤ 4194304; omega⟩
  have hP := @Plus_does Gv ⟨u.n, u.v, u.e⟩ ⟨!u.n, wholeF r u v * v.v, v.e⟩ oa ob
  have fin : ∀ (n : Bool) (v : Nat) (e : Int), -100000 ≤ e → e ≤ 100000 → bl v ≤ 600000 → (Nu.mk n v e).Ok := fun n v e h1 h2 h3 => ⟨by show -4194304 ≤ e; omega, by show e + bl v ≤ 4194304; omega⟩
  have hok : (restF r u v).Ok := by
    have hd : restF r u v = Nu.plus ⟨u.n, u.v, u.e⟩ ⟨!u.n, wholeF r u v * v.v, v.e⟩ := rfl
    rw [hd]
    unfold Nu.plus
    simp only
    split
    · exact ob
    · split
      · exact oa
      · have key : ∀ w j, bl w ≤ 300000 → j ≤ 200000 → bl (w * 2 ^ j) ≤ 500000 := fun w j h hj => by
          rcases Nat.eq_zero_or_pos w with h0 | h0
          · rw [h0, Nat.zero_mul, bl_zero]; omega
          · rw [bl_mul_pow _ _ h0]; omega
        have k1 := key u.v (u.e - (if v.e < u.e then v.e else u.e)).toNat (by omega) (by split <;> omega)
        have k2 := key (wholeF r u v * v.v) (v.e - (if v.e < u.e then v.e else u.e)).toNat (by omega) (by split <;> omega)
        have ke : -100000 ≤ (if v.e < u.e then v.e else u.e) ∧ (if v.e < u.e then v.e else u.e) ≤ 100000 := by split <;> omega
        have k3 := bl_add_le _ _ 500000 k1 k2
        have k4 := bl_mono (Nat.sub_le (u.v * 2 ^ (u.e - (if v.e < u.e then v.e else u.e)).toNat) (wholeF r u v * v.v * 2 ^ (v.e - (if v.e < u.e then v.e else u.e)).toNat))
        have k5 := bl_mono (Nat.sub_le (wholeF r u v * v.v * 2 ^ (v.e - (if v.e < u.e then v.e else u.e)).toNat) (u.v * 2 ^ (u.e - (if v.e < u.e then v.e else u.e)).toNat))
        generalize (if v.e < u.e then v.e else u.e) = E at *
        split
        · exact fin _ _ _ ke.1 ke.2 (by omega)
        · split
          · exact fin _ _ _ ke.1 ke.2 (by omega)
          · exact fin _ _ _ ke.1 ke.2 (by omega)
  have hF := @NFloat_does f p r h5 h2 h3 (restF r u v) u.n hok
  have hre : Nu.plus ⟨u.n, u.v, u.e⟩ ⟨!u.n, wholeF r u v * v.v, v.e⟩ = restF r u v := rfl
  rw [hre] at hP
  obtain ⟨uk, un, ue, uv⟩ := u
  obtain ⟨vk, vn, ve, vv⟩ := v
  simp only at ku kv
  subst ku
  subst kv
  generalize restF r ⟨1, un, ue, uv⟩ ⟨1, vn, ve, vv⟩ = rs at *
  generalize rs.round f p r un = z at *
  generalize wholeF r ⟨1, un, ue, uv⟩ ⟨1, vn, ve, vv⟩ = w at *
  have hO1 := @Of_does Gv 1 un ue (nat uv)
  have hO2 := @Of_does Gv 1 vn ve (nat vv)
  simp only at hT hP hW hF
  have hW : Does Tryz.prog Gv 66 [.c (.i .i64 r), Fl 1 un ue (nat uv), Fl 1 vn ve (nat vv)] (.v (Wn (nat w))) := hW
  clear hok oa ob
  obtain ⟨rn, rv, re⟩ := rs
  refine Does.of (nt := 92) Tryz.func59 rfl rfl rfl (by simp) ?_
  simp only [argTm, PV.ext, Ce.ext]
  refine Do.seqk fun _ k1_ => ?_
  refine Do.region [1,4,6,7,8] true ?_
  simp [go_sem]
  apply k1_; clear k1_
  refine Do.seqk fun _ k2_ => ?_
  refine Do.region [1,4,6,7,8,11,12] true ?_
  simp [go_sem]
  repeat (refine And.intro (by first | omega | (intros; omega) | grind) ?_)
  refine DoL.sealS true 105 104 rfl ?_
  simp [go_sem]
  refine DoL.callO true 106 3000 rfl rfl rfl rfl (by first | exact trivial | omega | (simp; done) | (simp; omega)) (hA) rfl rfl rfl ?_
  simp [go_sem]
  apply k2_; clear k2_
  refine Do.seqk fun _ k3_ => ?_
  refine Do.seqk fun _ k4_ => ?_
  refine Do.region [1,4,6,7,8,11,12,26] true ?_
  simp [go_sem]
  apply k4_; clear k4_
  refine Do.cond [1,4,6,7,8,11,12] rfl (fun h => ?_) (fun h => ?_) <;> simp [go_sem] at h ⊢
  refine Do.skip ?_
  simp [go_sem]
  apply k3_; clear k3_
  refine Do.seqk fun _ k5_ => ?_
  refine Do.sealS 3000 rfl ?_
  simp [go_sem]
  refine Do.draw [1,4,6,7,8] true (by kernel_rfl) ?_
  simp [go_sem]
  repeat (refine And.intro (by first | omega | (intros; omega) | kernel_rfl | grind) ?_)
  try (refine And.intro (by kernel_rfl) ?_)
  apply k5_; clear k5_
  refine Do.seqk fun _ k6_ => ?_
  refine Do.block ?_
  refine Do.seqk fun _ k7_ => ?_
  refine Do.region [1,4,6,7,8,35] true ?_
  simp [go_sem]
  repeat (refine And.intro (by first | omega | (intros; omega) | grind) ?_)
  apply k7_; clear k7_
  refine Do.cond [1,4,6,7,8] rfl (fun h => ?_) (fun h => ?_) <;> simp [go_sem] at h ⊢
  refine Do.seqk fun _ k8_ => ?_
  refine Do.region [1,4,6,7,8,45] true ?_
  simp [go_sem]
  repeat (refine And.intro (by first | omega | (intros; omega) | grind) ?_)
  apply k8_; clear k8_
  refine Do.cond [1,4,6,7,8] rfl (fun h => ?_) (fun h => ?_) <;> simp [go_sem] at h ⊢
  refine Do.seqk fun _ k9_ => ?_
  refine Do.region [1,4,6,7,8,55] true ?_
  simp [go_sem]
  repeat (refine And.intro (by first | omega | (intros; omega) | grind) ?_)
  apply k9_; clear k9_
  refine Do.cond [1,4,6,7,8] rfl (fun h => ?_) (fun h => ?_) <;> simp [go_sem] at h ⊢
  refine Do.skip ?_
  simp [go_sem]
  apply k6_; clear k6_
  refine Do.seqk fun _ k10_ => ?_
  refine Do.draw [1,4,6,7,8,13] true (by kernel_rfl) ?_
  simp [go_sem]
  repeat (refine And.intro (by first | omega | (intros; omega) | kernel_rfl | grind) ?_)
  refine DoLD.call true 1109 rfl rfl rfl rfl (by first | exact trivial | omega | (simp; done) | (simp; omega)) (hW) rfl (by first | exact .inl rfl | exact .inr rfl) rfl ?_
  simp [go_sem]
  repeat (refine And.intro (by first | omega | (intros; omega) | kernel_rfl | grind) ?_)
  try (refine And.intro (by kernel_rfl) ?_)
  apply k10_; clear k10_
  refine Do.seqk fun _ k11_ => ?_
  refine Do.draw [8,14,15] true (by kernel_rfl) ?_
  simp [go_sem]
  repeat (refine And.intro (by first | omega | (intros; omega) | kernel_rfl | grind) ?_)
  refine DoLD.call true 1202 rfl rfl rfl rfl (by first | exact trivial | omega | (simp; done) | (simp; omega)) (hO1) rfl (by first | exact .inl rfl | exact .inr rfl) rfl ?_
  simp [go_sem]
  repeat (refine And.intro (by first | omega | (intros; omega) | kernel_rfl | grind) ?_)
  refine DoLD.call true 1205 rfl rfl rfl rfl (by first | exact trivial | omega | (simp; done) | (simp; omega)) (hO2) rfl (by first | exact .inl rfl | exact .inr rfl) rfl ?_
  simp [go_sem]
  refine DoLD.call true 1206 rfl rfl rfl rfl (by first | exact trivial | omega | (simp; done) | (simp; omega)) (hT) rfl (by first | exact .inl rfl | exact .inr rfl) rfl ?_
  simp [go_sem]
  refine DoLD.call true 1207 rfl rfl rfl rfl (by first | exact trivial | omega | (simp; done) | (simp; omega)) (hP) rfl (by first | exact .inl rfl | exact .inr rfl) rfl ?_
  simp [go_sem]
  repeat (refine And.intro (by first | omega | (intros; omega) | kernel_rfl | grind) ?_)
  refine DoLD.call true 1212 rfl rfl rfl rfl (by first | exact trivial | omega | (simp; done) | (simp; omega)) (hF) rfl (by first | exact .inl rfl | exact .inr rfl) rfl ?_
  simp [go_sem]
  repeat (refine And.intro (by first | omega | (intros; omega) | kernel_rfl | grind) ?_)
  try (refine And.intro (by kernel_rfl) ?_)
  apply k11_; clear k11_
  refine Do.seqk fun _ k12_ => ?_
  refine Do.region [8,9,10] true ?_
  simp [go_sem]
  repeat (refine And.intro (by first | omega | (intros; omega) | grind) ?_)
  apply k12_; clear k12_
  refine Do.ret ?_
  simp [endQ, rets, ret1, go_sem]
  repeat (refine And.intro (by first | omega | (intros; omega) | grind) ?_)
  exact TLe.refl _
end Go.Proofs.YtbhokdhkfodpfaaGreatDoor
