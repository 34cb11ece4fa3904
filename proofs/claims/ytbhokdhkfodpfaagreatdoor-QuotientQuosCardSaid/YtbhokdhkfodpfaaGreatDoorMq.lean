/- The quotient rounded to an integer, by the program and by the reference. No condition. -/
import Derived.Test.YtbhokdhkfodpfaaGreatDoorMp
import Derived.Test.YtbhokdhkfodpfaaGreatDoorMo
import Derived.Test.YtbhokdhkfodpfaaGreatDoorMj
/- The quotient rounded to an integer, by the program and by the reference. No condition. -/
namespace Go.Proofs.YtbhokdhkfodpfaaGreatDoor
set_option linter.unusedVariables false
set_option linter.unusedSimpArgs false
set_option maxHeartbeats 8000000
set_option maxRecDepth 10000
/-- The quotient of two floats that are held, rounded to an integer; is there one? -/
def quoZ (r : Int) (u v : Flt) : Int := if u.k = 1 ∧ v.k = 1 then sgn (u.n != v.n) (wholeF r u v) else 0
def quoOk (u v : Flt) : Bool := !(decide (u.k = 3) || decide (v.k = 3) || decide (u.k = 2) || decide (v.k = 0))
theorem PLe.iv0 : PLe (.a [.b false, .z]) (Iv 0) := PLe.iv20 (n := false) (v := 0) rfl (by rw [nat_zero]; exact PLe.z false)
theorem Quo_err {f p r : Int} {x y : Fla} (hx : x.Ok) (hy : y.Ok) (he : argsE f p r false [x, y] ≠ 0) : Does Tryz.prog Gv 30 [Fm f p, .c (.i .i64 r), Fl x.k x.n x.e x.m, Fl y.k y.n y.e y.m] (.t [Iv 0, .c (.i .i64 (argsE f p r false [x, y]))]) := by
  have hA : Does Tryz.prog Gv 65 [Fm f p, .c (.i .i64 r), .c (.b false), .s false [x.cs, y.cs]] (.t [.c .z, .c (.i .i64 (argsE f p r false [x, y]))]) := Args_err (by simp) (by simp [hx, hy]) he
  generalize argsE f p r false [x, y] = z at *
  have hz : (z != 0) = true := by simpa using he
  refine Does.of (nt := 82) Tryz.func30 rfl rfl rfl (by simp) ?_
  simp only [argTm, PV.ext, Ce.ext]
  refine Do.seqk fun _ k1_ => ?_
  refine Do.region [1,4,6,7,8] true ?_
  simp [go_sem]
  apply k1_; clear k1_
  refine Do.seqk fun _ k2_ => ?_
  refine Do.region [1,6,7,8,10,11] true ?_
  simp [go_sem]
  repeat (refine And.intro (by first | omega | (intros; omega) | grind) ?_)
  refine DoL.sealS true 105 104 rfl ?_
  simp [go_sem]
  refine DoL.call true 106 rfl rfl rfl rfl (by first | exact trivial | omega | (simp; done) | (simp; omega)) (hA) rfl (by first | exact .inl rfl | exact .inr rfl) rfl ?_
  simp [go_sem]
  apply k2_; clear k2_
  refine Do.seqk fun _ k3_ => ?_
  refine Do.seqk fun _ k4_ => ?_
  refine Do.region [1,6,7,8,10,11,23] true ?_
  simp [go_sem, hz]
  apply k4_; clear k4_
  refine Do.cond [1,6,7,8,10,11] rfl (fun h => ?_) (fun h => ?_) <;> simp [go_sem, hz] at h ⊢
  refine Do.seqk fun _ k5_ => ?_
  refine Do.region [8,9] true ?_
  simp [go_sem, hz]
  repeat (refine And.intro (by first | omega | (intros; omega) | grind) ?_)
  apply k5_; clear k5_
  refine Do.ret ?_
  simp [endQ, rets, ret1, go_sem, hz]
  repeat (refine And.intro (by first | omega | (intros; omega) | grind) ?_)
  exact TLe.t (.cons PLe.iv0 (.cons (PLe.refl _) .nil))
theorem Quo_does {f p r : Int} {x y : Fla} (hx : x.Ok) (hy : y.Ok) (he : argsE f p r false [x, y] = 0) {u v : Flt} (hu : (holdsP f p x.flt).1 = u) (hv : (holdsP f p y.flt).1 = v) :
    Does Tryz.prog Gv 30 [Fm f p, .c (.i .i64 r), Fl x.k x.n x.e x.m, Fl y.k y.n y.e y.m] (.t [Iv (quoZ r u v), .c (.i .i64 (if quoOk u v then 0 else 4))]) := by
  have hl : [x, y].length < 1099511627776 := by simp
  have ho : ∀ u ∈ [x, y], u.Ok := by simp [hx, hy]
  have hA : DoesO Tryz.prog Gv 65 [Fm f p, .c (.i .i64 r), .c (.b false), .s false [x.cs, y.cs]] 4 [(holdsP f p x.flt).1.cs, (holdsP f p y.flt).1.cs] [.c (.i .i64 0)] := Args_own hl ho he
  obtain ⟨h1, h2, h3, h4, h5, h6⟩ := argsE_zero he
  have hhx : (holdsP f p x.flt).2 = true := by simpa using List.all_eq_true.1 h6 x (by simp)
  have hhy : (holdsP f p y.flt).2 = true := by simpa using List.all_eq_true.1 h6 y (by simp)
  have sx := held_small h5 hhx
  have sy := held_small h5 hhy
  have cx := held_cf hhx
  have cy := held_cf hhy
  rw [hu] at sx cx hA
  rw [hv] at sy cy hA
  have kx := cx.k
  have ky := cy.k
  unfold K4 at kx ky
  obtain ⟨uk, un, ue, uv⟩ := u
  obtain ⟨vk, vn, ve, vv⟩ := v
  simp only at kx ky
  by_cases hb : uk = 3 ∨ vk = 3 ∨ uk = 2 ∨ vk = 0
  · have e1 : quoZ r ⟨uk, un, ue, uv⟩ ⟨vk, vn, ve, vv⟩ = 0 := by unfold quoZ; rw [if_neg]; simp only; omega
    have e2 : quoOk ⟨uk, un, ue, uv⟩ ⟨vk, vn, ve, vv⟩ = false := by unfold quoOk; simp only; rcases hb with h | h | h | h <;> simp [h]
    rw [e1, e2]
    refine Does.of (nt := 82) Tryz.func30 rfl rfl rfl (by simp) ?_
    simp only [argTm, PV.ext, Ce.ext]
    refine Do.seqk fun _ k1_ => ?_
    refine Do.region [1,4,6,7,8] true ?_
    simp [go_sem]
    apply k1_; clear k1_
    refine Do.seqk fun _ k2_ => ?_
    refine Do.region [1,6,7,8,10,11] true ?_
    simp [go_sem]
    repeat (refine And.intro (by first | omega | (intros; omega) | grind) ?_)
    refine DoL.sealS true 105 104 rfl ?_
    simp [go_sem]
    refine DoL.callO true 106 3000 rfl rfl rfl rfl (by first | exact trivial | omega | (simp; done) | (simp; omega)) (hA) rfl rfl rfl ?_
    simp [go_sem]
    apply k2_; clear k2_
    refine Do.seqk fun _ k3_ => ?_
    refine Do.seqk fun _ k4_ => ?_
    refine Do.region [1,6,7,8,10,11,23] true ?_
    simp [go_sem]
    apply k4_; clear k4_
    refine Do.cond [1,6,7,8,10,11] rfl (fun h => ?_) (fun h => ?_) <;> simp [go_sem] at h ⊢
    refine Do.skip ?_
    simp [go_sem]
    apply k3_; clear k3_
    refine Do.seqk fun _ k5_ => ?_
    refine Do.sealS 3000 rfl ?_
    simp [go_sem]
    refine Do.draw [1,6,7,8] true (by kernel_rfl) ?_
    simp [go_sem]
    repeat (refine And.intro (by first | omega | (intros; omega) | kernel_rfl | grind) ?_)
    try (refine And.intro (by kernel_rfl) ?_)
    apply k5_; clear k5_
    refine Do.seqk fun _ k6_ => ?_
    refine Do.block ?_
    refine Do.seqk fun _ k7_ => ?_
    refine Do.region [1,6,7,8,32] true ?_
    simp [go_sem]
    repeat (refine And.intro (by first | omega | (intros; omega) | grind) ?_)
    apply k7_; clear k7_
    refine Do.cond [1,6,7,8] rfl (fun g1 => ?_) (fun g1 => ?_) <;> simp [go_sem] at g1 ⊢
    · refine Do.seqk fun _ k8_ => ?_
      refine Do.region [8,9] true ?_
      simp [go_sem]
      repeat (refine And.intro (by first | omega | (intros; omega) | grind) ?_)
      apply k8_; clear k8_
      refine Do.ret ?_
      simp [endQ, rets, ret1, go_sem]
      repeat (refine And.intro (by first | omega | (intros; omega) | grind) ?_)
      exact TLe.t (.cons PLe.iv0 (.cons (PLe.refl _) .nil))
    · omega
  · have e2 : quoOk ⟨uk, un, ue, uv⟩ ⟨vk, vn, ve, vv⟩ = true := by unfold quoOk; simp only; simp; omega
    rw [e2]
    by_cases hc : vk = 2 ∨ uk = 0
    · have e1 : quoZ r ⟨uk, un, ue, uv⟩ ⟨vk, vn, ve, vv⟩ = 0 := by unfold quoZ; rw [if_neg]; simp only; omega
      rw [e1]
      refine Does.of (nt := 82) Tryz.func30 rfl rfl rfl (by simp) ?_
      simp only [argTm, PV.ext, Ce.ext]
      refine Do.seqk fun _ k1_ => ?_
      refine Do.region [1,4,6,7,8] true ?_
      simp [go_sem]
      apply k1_; clear k1_
      refine Do.seqk fun _ k2_ => ?_
      refine Do.region [1,6,7,8,10,11] true ?_
      simp [go_sem]
      repeat (refine And.intro (by first | omega | (intros; omega) | grind) ?_)
      refine DoL.sealS true 105 104 rfl ?_
      simp [go_sem]
      refine DoL.callO true 106 3000 rfl rfl rfl rfl (by first | exact trivial | omega | (simp; done) | (simp; omega)) (hA) rfl rfl rfl ?_
      simp [go_sem]
      apply k2_; clear k2_
      refine Do.seqk fun _ k3_ => ?_
      refine Do.seqk fun _ k4_ => ?_
      refine Do.region [1,6,7,8,10,11,23] true ?_
      simp [go_sem]
      apply k4_; clear k4_
      refine Do.cond [1,6,7,8,10,11] rfl (fun h => ?_) (fun h => ?_) <;> simp [go_sem] at h ⊢
      refine Do.skip ?_
      simp [go_sem]
      apply k3_; clear k3_
      refine Do.seqk fun _ k5_ => ?_
      refine Do.sealS 3000 rfl ?_
      simp [go_sem]
      refine Do.draw [1,6,7,8] true (by kernel_rfl) ?_
      simp [go_sem]
      repeat (refine And.intro (by first | omega | (intros; omega) | kernel_rfl | grind) ?_)
      try (refine And.intro (by kernel_rfl) ?_)
      apply k5_; clear k5_
      refine Do.seqk fun _ k6_ => ?_
      refine Do.block ?_
      refine Do.seqk fun _ k7_ => ?_
      refine Do.region [1,6,7,8,32] true ?_
      simp [go_sem]
      repeat (refine And.intro (by first | omega | (intros; omega) | grind) ?_)
      apply k7_; clear k7_
      refine Do.cond [1,6,7,8] rfl (fun g1 => ?_) (fun g1 => ?_) <;> simp [go_sem] at g1 ⊢
      · omega
      · refine Do.seqk fun _ k8_ => ?_
        refine Do.region [1,6,7,8,52] true ?_
        simp [go_sem]
        repeat (refine And.intro (by first | omega | (intros; omega) | grind) ?_)
        apply k8_; clear k8_
        refine Do.cond [1,6,7,8] rfl (fun g2 => ?_) (fun g2 => ?_) <;> simp [go_sem] at g2 ⊢
        · refine Do.seqk fun _ k9_ => ?_
          refine Do.region [8,9] true ?_
          simp [go_sem]
          repeat (refine And.intro (by first | omega | (intros; omega) | grind) ?_)
          apply k9_; clear k9_
          refine Do.ret ?_
          simp [endQ, rets, ret1, go_sem]
          repeat (refine And.intro (by first | omega | (intros; omega) | grind) ?_)
          exact TLe.t (.cons PLe.iv0 (.cons (PLe.refl _) .nil))
        · omega
    · obtain rfl : uk = 1 := by omega
      obtain rfl : vk = 1 := by omega
      have e1 : quoZ r ⟨1, un, ue, uv⟩ ⟨1, vn, ve, vv⟩ = sgn (un != vn) (wholeF r ⟨1, un, ue, uv⟩ ⟨1, vn, ve, vv⟩) := by unfold quoZ; rw [if_pos ⟨rfl, rfl⟩]
      rw [e1]
      have pv := Nat.pos_of_ne_zero (cy.pos rfl)
      have hW := @wholeF_does r h2 h3 ⟨1, un, ue, uv⟩ ⟨1, vn, ve, vv⟩ sx.2.2.1 sy.2.2.1 pv ⟨sx.1, sx.2.1⟩ ⟨sy.1, sy.2.1⟩
      have hwb := @wholeF_bl r ⟨1, un, ue, uv⟩ ⟨1, vn, ve, vv⟩ sx.2.2.1 ⟨sx.1, sx.2.1⟩ ⟨sy.1, sy.2.1⟩
      have hW : Does Tryz.prog Gv 66 [.c (.i .i64 r), Fl 1 un ue (nat uv), Fl 1 vn ve (nat vv)] (.v (Wn (nat (wholeF r ⟨1, un, ue, uv⟩ ⟨1, vn, ve, vv⟩)))) := hW
      generalize wholeF r ⟨1, un, ue, uv⟩ ⟨1, vn, ve, vv⟩ = w at *
      have lw := len_bl hwb
      have hlw : ¬ (4096 < (nat w).length) := by omega
      have hsn := sgn_neg (un != vn) w
      refine Does.of (nt := 82) Tryz.func30 rfl rfl rfl (by simp) ?_
      simp only [argTm, PV.ext, Ce.ext]
      refine Do.seqk fun _ k1_ => ?_
      refine Do.region [1,4,6,7,8] true ?_
      simp [go_sem]
      apply k1_; clear k1_
      refine Do.seqk fun _ k2_ => ?_
      refine Do.region [1,6,7,8,10,11] true ?_
      simp [go_sem]
      repeat (refine And.intro (by first | omega | (intros; omega) | grind) ?_)
      refine DoL.sealS true 105 104 rfl ?_
      simp [go_sem]
      refine DoL.callO true 106 3000 rfl rfl rfl rfl (by first | exact trivial | omega | (simp; done) | (simp; omega)) (hA) rfl rfl rfl ?_
      simp [go_sem]
      apply k2_; clear k2_
      refine Do.seqk fun _ k3_ => ?_
      refine Do.seqk fun _ k4_ => ?_
      refine Do.region [1,6,7,8,10,11,23] true ?_
      simp [go_sem]
      apply k4_; clear k4_
      refine Do.cond [1,6,7,8,10,11] rfl (fun h => ?_) (fun h => ?_) <;> simp [go_sem] at h ⊢
      refine Do.skip ?_
      simp [go_sem]
      apply k3_; clear k3_
      refine Do.seqk fun _ k5_ => ?_
      refine Do.sealS 3000 rfl ?_
      simp [go_sem]
      refine Do.draw [1,6,7,8] true (by kernel_rfl) ?_
      simp [go_sem]
      repeat (refine And.intro (by first | omega | (intros; omega) | kernel_rfl | grind) ?_)
      try (refine And.intro (by kernel_rfl) ?_)
      apply k5_; clear k5_
      refine Do.seqk fun _ k6_ => ?_
      refine Do.block ?_
      refine Do.seqk fun _ k7_ => ?_
      refine Do.region [1,6,7,8,32] true ?_
      simp [go_sem]
      repeat (refine And.intro (by first | omega | (intros; omega) | grind) ?_)
      apply k7_; clear k7_
      refine Do.cond [1,6,7,8] rfl (fun g1 => ?_) (fun g1 => ?_) <;> simp [go_sem] at g1 ⊢
      refine Do.seqk fun _ k8_ => ?_
      refine Do.region [1,6,7,8,52] true ?_
      simp [go_sem]
      repeat (refine And.intro (by first | omega | (intros; omega) | grind) ?_)
      apply k8_; clear k8_
      refine Do.cond [1,6,7,8] rfl (fun g2 => ?_) (fun g2 => ?_) <;> simp [go_sem] at g2 ⊢
      refine Do.skip ?_
      simp [go_sem]
      apply k6_; clear k6_
      refine Do.seqk fun _ k9_ => ?_
      refine Do.region [6,7,8,12] true ?_
      simp [go_sem]
      repeat (refine And.intro (by first | omega | (intros; omega) | grind) ?_)
      refine DoL.call true 904 rfl rfl rfl rfl (by first | exact trivial | omega | (simp; done) | (simp; omega)) (hW) rfl (by first | exact .inl rfl | exact .inr rfl) rfl ?_
      simp [go_sem]
      apply k9_; clear k9_
      refine Do.seqk fun _ k10_ => ?_
      refine Do.seqk fun _ k11_ => ?_
      refine Do.region [6,7,8,12,68] true ?_
      simp [go_sem]
      repeat (refine And.intro (by first | omega | (intros; omega) | grind) ?_)
      apply k11_; clear k11_
      refine Do.cond [6,7,8,12] rfl (fun g3 => ?_) (fun g3 => ?_) <;> simp [go_sem] at g3 ⊢
      · omega
      · refine Do.skip ?_
        simp [go_sem]
        apply k10_; clear k10_
        refine Do.seqk fun _ k12_ => ?_
        refine Do.region [8,9] true ?_
        simp [go_sem]
        repeat (refine And.intro (by first | omega | (intros; omega) | grind) ?_)
        apply k12_; clear k12_
        refine Do.ret ?_
        simp [endQ, rets, ret1, go_sem]
        repeat (refine And.intro (by first | omega | (intros; omega) | grind) ?_)
        exact TLe.t (.cons (PLe.iv20 (by rw [← hsn]; cases un <;> cases vn <;> simp) (PLe.ext (.c (.w true _)))) (.cons (PLe.refl _) .nil))
variable {G : Gl}
theorem RAligned_fin {x y : Fla} (hx : Rt x) (hy : Rt y) (kx : x.k = 1) (ky : y.k = 1) {u v : Flt} (hu : rcanon x.flt = u) (hv : rcanon y.flt = v) (su : -100000 ≤ u.e ∧ u.e ≤ 100000 ∧ bl u.v ≤ 256) (sv : -100000 ≤ v.e ∧ v.e ≤ 100000 ∧ bl v.v ≤ 256) : ∃ low, Does Tryz.prog G 102 [Fl x.k x.n x.e x.m, Fl y.k y.n y.e y.m] (.t [Iv (sgn u.n (u.v * 2 ^ (u.e - v.e).toNat)), Iv (sgn v.n (v.v * 2 ^ (v.e - u.e).toNat)), .c (.i .i64 low)]) := by
  have lx := hx.len
  have ly := hy.len
  have h1 := @Canonical_new G x.k x.e x.n x.m (by omega) hx.ws hx.md
  have h2 := @Canonical_new G y.k y.e y.n y.m (by omega) hy.ws hy.md
  have ku : u.k = 1 := by rw [← hu, rcanon_k]; exact kx
  have kv : v.k = 1 := by rw [← hv, rcanon_k]; exact ky
  have h1 : Does Tryz.prog G 41 [Fl x.k x.n x.e x.m] (.v u.pw) := by rw [← hu]; exact h1
  have h2 : Does Tryz.prog G 41 [Fl y.k y.n y.e y.m] (.v v.pw) := by rw [← hv]; exact h2
  obtain ⟨uk, un, ue, uv⟩ := u
  obtain ⟨vk, vn, ve, vv⟩ := v
  simp only at ku kv su sv
  subst ku
  subst kv
  have h1 : Does Tryz.prog G 41 [Fl x.k x.n x.e x.m] (.v (.a [.i .i64 1, .b un, .i .i64 ue, .w true (nat uv)])) := h1
  have h2 : Does Tryz.prog G 41 [Fl y.k y.n y.e y.m] (.v (.a [.i .i64 1, .b vn, .i .i64 ve, .w true (nat vv)])) := h2
  have hF : Does Tryz.prog G 61 [.c (.i .i64 0)] (.v (Iv 0)) := @IFrom_does G 0 (by decide)
  have lu := len_bl su.2.2
  have lv := len_bl sv.2.2
  have hbl : ∀ w j, bl w ≤ 256 → j ≤ 200000 → bl (w * 2 ^ j) ≤ 200256 := fun w j h hj => by
    rcases Nat.eq_zero_or_pos w with h0 | h0
    · subst h0; rw [Nat.zero_mul, bl_zero]; omega
    · rw [bl_mul_pow _ _ h0]; omega
  have hL1 := @RLeft_does G (nat uv) (ue - ve).toNat (by omega) (nat_ws _) (by omega)
  have hL2 := @RLeft_does G (nat vv) (ve - ue).toNat (by omega) (nat_ws _) (by omega)
  rw [val_nat] at hL1 hL2
  have b1 := hbl uv (ue - ve).toNat su.2.2 (by omega)
  have b2 := hbl vv (ve - ue).toNat sv.2.2 (by omega)
  have hM1 := @IvMake G un (uv * 2 ^ (ue - ve).toNat) (by omega)
  have hM2 := @IvMake G vn (vv * 2 ^ (ve - ue).toNat) (by omega)
  simp only
  generalize uv * 2 ^ (ue - ve).toNat = U at *
  generalize vv * 2 ^ (ve - ue).toNat = V at *
  generalize sgn un U = zu at *
  generalize sgn vn V = zv at *
  by_cases hc : ue ≤ ve
  · refine ⟨ue, ?_⟩
    have e1 : ((ue - ve).toNat : Int) = 0 := by omega
    have e2 : ((ve - ue).toNat : Int) = ve - ue := by omega
    rw [e1] at hL1
    rw [e2] at hL2
    have hlow : (if ve < ue then ve else ue) = ue := by split <;> omega
    refine Does.of (nt := 71) Tryz.func102 rfl rfl rfl (by simp) ?_
    simp only [argTm, PV.ext, Ce.ext]
    refine Do.seqk fun _ k1_ => ?_
    refine Do.region [2,3,4,5] true ?_
    simp [go_sem]
    apply k1_; clear k1_
    refine Do.seqk fun _ k2_ => ?_
    refine Do.draw [2,3,4,5] true (by kernel_rfl) ?_
    simp [go_sem]
    repeat (refine And.intro (by first | omega | (intros; omega) | kernel_rfl | grind) ?_)
    refine DoLD.call true 102 rfl rfl rfl rfl (by first | exact trivial | omega | (simp; done) | (simp; omega)) (h1) rfl (by first | exact .inl rfl | exact .inr rfl) rfl ?_
    simp [go_sem]
    repeat (refine And.intro (by first | omega | (intros; omega) | kernel_rfl | grind) ?_)
    refine DoLD.call true 104 rfl rfl rfl rfl (by first | exact trivial | omega | (simp; done) | (simp; omega)) (h2) rfl (by first | exact .inl rfl | exact .inr rfl) rfl ?_
    simp [go_sem]
    repeat (refine And.intro (by first | omega | (intros; omega) | kernel_rfl | grind) ?_)
    try (refine And.intro (by kernel_rfl) ?_)
    apply k2_; clear k2_
    refine Do.seqk fun _ k3_ => ?_
    refine Do.region [2,3,4,5,7] true ?_
    simp [go_sem]
    apply k3_; clear k3_
    refine Do.seqk fun _ k4_ => ?_
    refine Do.block ?_
    refine Do.seqk fun _ k5_ => ?_
    refine Do.region [2,3,4,5,7,14] true ?_
    simp [go_sem]
    repeat (refine And.intro (by first | omega | (intros; omega) | grind) ?_)
    apply k5_; clear k5_
    refine Do.cond [2,3,4,5,7] rfl (fun g1 => ?_) (fun g1 => ?_) <;> simp [go_sem] at g1 ⊢
    refine Do.region [2,3,4,5,7] true ?_
    simp [go_sem, hlow]
    repeat (refine And.intro (by first | omega | (intros; omega) | grind) ?_)
    apply k4_; clear k4_
    refine Do.seqk fun _ k6_ => ?_
    refine Do.region [2,3,4,5,7,8,9] true ?_
    simp [go_sem, hlow]
    refine DoL.call true 901 rfl rfl rfl rfl (by first | exact trivial | omega | (simp; done) | (simp; omega)) (hF) rfl (by first | exact .inl rfl | exact .inr rfl) rfl ?_
    simp [go_sem, hlow]
    refine DoL.call true 902 rfl rfl rfl rfl (by first | exact trivial | omega | (simp; done) | (simp; omega)) (hF) rfl (by first | exact .inl rfl | exact .inr rfl) rfl ?_
    simp [go_sem, hlow]
    repeat (refine And.intro (by first | omega | (intros; omega) | grind) ?_)
    apply k6_; clear k6_
    refine Do.seqk fun _ k7_ => ?_
    refine Do.seqk fun _ k8_ => ?_
    refine Do.region [2,3,4,5,7,8,9,44] true ?_
    simp [go_sem, hlow]
    repeat (refine And.intro (by first | omega | (intros; omega) | grind) ?_)
    apply k8_; clear k8_
    refine Do.cond [2,3,4,5,7,8,9] rfl (fun g2 => ?_) (fun g2 => ?_) <;> simp [go_sem, hlow] at g2 ⊢
    refine Do.draw [3,4,5,7,8,9] true (by kernel_rfl) ?_
    simp [go_sem, hlow]
    repeat (refine And.intro (by first | omega | (intros; omega) | kernel_rfl | grind) ?_)
    refine DoLD.call true 1109 rfl rfl rfl rfl (by first | exact trivial | omega | (simp; done) | (simp; omega)) (hL1) rfl (by first | exact .inl rfl | exact .inr rfl) rfl ?_
    simp [go_sem, hlow]
    refine DoLD.call true 1110 rfl rfl rfl rfl (by first | exact trivial | omega | (simp; done) | (simp; omega)) (hM1) rfl (by first | exact .inl rfl | exact .inr rfl) rfl ?_
    simp [go_sem, hlow]
    repeat (refine And.intro (by first | omega | (intros; omega) | kernel_rfl | grind) ?_)
    try (refine And.intro (by kernel_rfl) ?_)
    apply k7_; clear k7_
    refine Do.seqk fun _ k9_ => ?_
    refine Do.seqk fun _ k10_ => ?_
    refine Do.region [3,4,5,7,8,9,57] true ?_
    simp [go_sem, hlow]
    repeat (refine And.intro (by first | omega | (intros; omega) | grind) ?_)
    apply k10_; clear k10_
    refine Do.cond [3,4,5,7,8,9] rfl (fun g3 => ?_) (fun g3 => ?_) <;> simp [go_sem, hlow] at g3 ⊢
    refine Do.draw [4,5,7,8,9] true (by kernel_rfl) ?_
    simp [go_sem, hlow]
    repeat (refine And.intro (by first | omega | (intros; omega) | kernel_rfl | grind) ?_)
    refine DoLD.call true 1309 rfl rfl rfl rfl (by first | exact trivial | omega | (simp; done) | (simp; omega)) (hL2) rfl (by first | exact .inl rfl | exact .inr rfl) rfl ?_
    simp [go_sem, hlow]
    refine DoLD.call true 1310 rfl rfl rfl rfl (by first | exact trivial | omega | (simp; done) | (simp; omega)) (hM2) rfl (by first | exact .inl rfl | exact .inr rfl) rfl ?_
    simp [go_sem, hlow]
    repeat (refine And.intro (by first | omega | (intros; omega) | kernel_rfl | grind) ?_)
    try (refine And.intro (by kernel_rfl) ?_)
    apply k9_; clear k9_
    refine Do.seqk fun _ k11_ => ?_
    refine Do.draw [4,5,6] true (by kernel_rfl) ?_
    simp [go_sem, hlow]
    repeat (refine And.intro (by first | omega | (intros; omega) | kernel_rfl | grind) ?_)
    try (refine And.intro (by kernel_rfl) ?_)
    apply k11_; clear k11_
    refine Do.ret ?_
    simp [endQ, rets, ret1, go_sem, hlow]
    repeat (refine And.intro (by first | omega | (intros; omega) | grind) ?_)
    exact TLe.refl _
  · refine ⟨ve, ?_⟩
    have e1 : ((ue - ve).toNat : Int) = ue - ve := by omega
    have e2 : ((ve - ue).toNat : Int) = 0 := by omega
    rw [e1] at hL1
    rw [e2] at hL2
    have hlow : (if ve < ue then ve else ue) = ve := by split <;> omega
    refine Does.of (nt := 71) Tryz.func102 rfl rfl rfl (by simp) ?_
    simp only [argTm, PV.ext, Ce.ext]
    refine Do.seqk fun _ k1_ => ?_
    refine Do.region [2,3,4,5] true ?_
    simp [go_sem]
    apply k1_; clear k1_
    refine Do.seqk fun _ k2_ => ?_
    refine Do.draw [2,3,4,5] true (by kernel_rfl) ?_
    simp [go_sem]
    repeat (refine And.intro (by first | omega | (intros; omega) | kernel_rfl | grind) ?_)
    refine DoLD.call true 102 rfl rfl rfl rfl (by first | exact trivial | omega | (simp; done) | (simp; omega)) (h1) rfl (by first | exact .inl rfl | exact .inr rfl) rfl ?_
    simp [go_sem]
    repeat (refine And.intro (by first | omega | (intros; omega) | kernel_rfl | grind) ?_)
    refine DoLD.call true 104 rfl rfl rfl rfl (by first | exact trivial | omega | (simp; done) | (simp; omega)) (h2) rfl (by first | exact .inl rfl | exact .inr rfl) rfl ?_
    simp [go_sem]
    repeat (refine And.intro (by first | omega | (intros; omega) | kernel_rfl | grind) ?_)
    try (refine And.intro (by kernel_rfl) ?_)
    apply k2_; clear k2_
    refine Do.seqk fun _ k3_ => ?_
    refine Do.region [2,3,4,5,7] true ?_
    simp [go_sem]
    apply k3_; clear k3_
    refine Do.seqk fun _ k4_ => ?_
    refine Do.block ?_
    refine Do.seqk fun _ k5_ => ?_
    refine Do.region [2,3,4,5,7,14] true ?_
    simp [go_sem]
    repeat (refine And.intro (by first | omega | (intros; omega) | grind) ?_)
    apply k5_; clear k5_
    refine Do.cond [2,3,4,5,7] rfl (fun g1 => ?_) (fun g1 => ?_) <;> simp [go_sem] at g1 ⊢
    refine Do.region [2,3,4,5,7] true ?_
    simp [go_sem, hlow]
    repeat (refine And.intro (by first | omega | (intros; omega) | grind) ?_)
    apply k4_; clear k4_
    refine Do.seqk fun _ k6_ => ?_
    refine Do.region [2,3,4,5,7,8,9] true ?_
    simp [go_sem, hlow]
    refine DoL.call true 901 rfl rfl rfl rfl (by first | exact trivial | omega | (simp; done) | (simp; omega)) (hF) rfl (by first | exact .inl rfl | exact .inr rfl) rfl ?_
    simp [go_sem, hlow]
    refine DoL.call true 902 rfl rfl rfl rfl (by first | exact trivial | omega | (simp; done) | (simp; omega)) (hF) rfl (by first | exact .inl rfl | exact .inr rfl) rfl ?_
    simp [go_sem, hlow]
    repeat (refine And.intro (by first | omega | (intros; omega) | grind) ?_)
    apply k6_; clear k6_
    refine Do.seqk fun _ k7_ => ?_
    refine Do.seqk fun _ k8_ => ?_
    refine Do.region [2,3,4,5,7,8,9,44] true ?_
    simp [go_sem, hlow]
    repeat (refine And.intro (by first | omega | (intros; omega) | grind) ?_)
    apply k8_; clear k8_
    refine Do.cond [2,3,4,5,7,8,9] rfl (fun g2 => ?_) (fun g2 => ?_) <;> simp [go_sem, hlow] at g2 ⊢
    refine Do.draw [3,4,5,7,8,9] true (by kernel_rfl) ?_
    simp [go_sem, hlow]
    repeat (refine And.intro (by first | omega | (intros; omega) | kernel_rfl | grind) ?_)
    refine DoLD.call true 1109 rfl rfl rfl rfl (by first | exact trivial | omega | (simp; done) | (simp; omega)) (hL1) rfl (by first | exact .inl rfl | exact .inr rfl) rfl ?_
    simp [go_sem, hlow]
    refine DoLD.call true 1110 rfl rfl rfl rfl (by first | exact trivial | omega | (simp; done) | (simp; omega)) (hM1) rfl (by first | exact .inl rfl | exact .inr rfl) rfl ?_
    simp [go_sem, hlow]
    repeat (refine And.intro (by first | omega | (intros; omega) | kernel_rfl | grind) ?_)
    try (refine And.intro (by kernel_rfl) ?_)
    apply k7_; clear k7_
    refine Do.seqk fun _ k9_ => ?_
    refine Do.seqk fun _ k10_ => ?_
    refine Do.region [3,4,5,7,8,9,57] true ?_
    simp [go_sem, hlow]
    repeat (refine And.intro (by first | omega | (intros; omega) | grind) ?_)
    apply k10_; clear k10_
    refine Do.cond [3,4,5,7,8,9] rfl (fun g3 => ?_) (fun g3 => ?_) <;> simp [go_sem, hlow] at g3 ⊢
    refine Do.draw [4,5,7,8,9] true (by kernel_rfl) ?_
    simp [go_sem, hlow]
    repeat (refine And.intro (by first | omega | (intros; omega) | kernel_rfl | grind) ?_)
    refine DoLD.call true 1309 rfl rfl rfl rfl (by first | exact trivial | omega | (simp; done) | (simp; omega)) (hL2) rfl (by first | exact .inl rfl | exact .inr rfl) rfl ?_
    simp [go_sem, hlow]
    refine DoLD.call true 1310 rfl rfl rfl rfl (by first | exact trivial | omega | (simp; done) | (simp; omega)) (hM2) rfl (by first | exact .inl rfl | exact .inr rfl) rfl ?_
    simp [go_sem, hlow]
    repeat (refine And.intro (by first | omega | (intros; omega) | kernel_rfl | grind) ?_)
    try (refine And.intro (by kernel_rfl) ?_)
    apply k9_; clear k9_
    refine Do.seqk fun _ k11_ => ?_
    refine Do.draw [4,5,6] true (by kernel_rfl) ?_
    simp [go_sem, hlow]
    repeat (refine And.intro (by first | omega | (intros; omega) | kernel_rfl | grind) ?_)
    try (refine And.intro (by kernel_rfl) ?_)
    apply k11_; clear k11_
    refine Do.ret ?_
    simp [endQ, rets, ret1, go_sem, hlow]
    repeat (refine And.intro (by first | omega | (intros; omega) | grind) ?_)
    exact TLe.refl _
theorem RWhole_fin {r : Int} (hr : 0 ≤ r) (hr' : r ≤ 4) {x y : Fla} (hx : Rt x) (hy : Rt y) (kx : x.k = 1) (ky : y.k = 1) {u v : Flt} (hu : rcanon x.flt = u) (hv : rcanon y.flt = v) (su : -100000 ≤ u.e ∧ u.e ≤ 100000 ∧ bl u.v ≤ 256) (sv : -100000 ≤ v.e ∧ v.e ≤ 100000 ∧ bl v.v ≤ 256) (pv : 0 < v.v) : Does Tryz.prog G 67 [.c (.i .i64 r), Fl x.k x.n x.e x.m, Fl y.k y.n y.e y.m] (.v (Iv (sgn (u.n != v.n) (wholeF r u v)))) := by
  obtain ⟨low, hA⟩ := @RAligned_fin G x y hx hy kx ky u v hu hv su sv
  have nx : x.n = u.n := by rw [← hu, rcanon_n]; rfl
  have ny : y.n = v.n := by rw [← hv, rcanon_n]; rfl
  have hwb := @wholeF_bl r u v su.2.2 ⟨su.1, su.2.1⟩ ⟨sv.1, sv.2.1⟩
  have hbl : ∀ w j, bl w ≤ 256 → j ≤ 200000 → bl (w * 2 ^ j) ≤ 200256 := fun w j h hj => by
    rcases Nat.eq_zero_or_pos w with h0 | h0
    · subst h0; rw [Nat.zero_mul, bl_zero]; omega
    · rw [bl_mul_pow _ _ h0]; omega
  have b1 := hbl u.v (u.e - v.e).toNat su.2.2 (by omega)
  have b2 := hbl v.v (v.e - u.e).toNat sv.2.2 (by omega)
  have hD : 0 < v.v * 2 ^ (v.e - u.e).toNat := Nat.mul_pos pv (Nat.pow_pos (by decide))
  have hR := @RRatio_does G (u.v * 2 ^ (u.e - v.e).toNat) (v.v * 2 ^ (v.e - u.e).toNat) (by omega) (by omega) hD
  obtain ⟨q1, q2⟩ := @ratio_code (u.v * 2 ^ (u.e - v.e).toNat) (v.v * 2 ^ (v.e - u.e).toNat) hD
  have hqb := bl_mono (Nat.div_le_self (u.v * 2 ^ (u.e - v.e).toNat) (v.v * 2 ^ (v.e - u.e).toNat))
  have hRd := @Rounded_does G r hr hr' (u.n != v.n) (decide (u.v * 2 ^ (u.e - v.e).toNat * 2 / (v.v * 2 ^ (v.e - u.e).toNat) % 2 = 1)) (!decide (u.v * 2 ^ (u.e - v.e).toNat * 2 % (v.v * 2 ^ (v.e - u.e).toNat) = 0)) (u.v * 2 ^ (u.e - v.e).toNat * 2 / (v.v * 2 ^ (v.e - u.e).toNat) / 2) (by rw [q1]; omega)
  rw [q2, q1] at hRd
  rw [q1] at hR
  have hw : upP r (u.n != v.n) (u.v * 2 ^ (u.e - v.e).toNat / (v.v * 2 ^ (v.e - u.e).toNat)) (cmpR (u.v * 2 ^ (u.e - v.e).toNat % (v.v * 2 ^ (v.e - u.e).toNat)) (v.v * 2 ^ (v.e - u.e).toNat)) = wholeF r u v := rfl
  rw [hw] at hRd
  have hM := @IvMake G (u.n != v.n) (wholeF r u v) (by omega)
  have hA : Does Tryz.prog G 102 [Fl x.k x.n x.e x.m, Fl y.k y.n y.e y.m] (.t [Ig (decide (sgn u.n (u.v * 2 ^ (u.e - v.e).toNat) < 0)) (nat (u.v * 2 ^ (u.e - v.e).toNat)), Ig (decide (sgn v.n (v.v * 2 ^ (v.e - u.e).toNat) < 0)) (nat (v.v * 2 ^ (v.e - u.e).toNat)), .c (.i .i64 low)]) := by
    have e : ∀ (n : Bool) (w : Nat), Iv (sgn n w) = Ig (decide (sgn n w < 0)) (nat w) := fun n w => by
      show Ig (decide (sgn n w < 0)) (nat (sgn n w).natAbs) = _
      rw [sgn_abs]
    rw [e, e] at hA
    exact hA
  rw [nx, ny] at *
  generalize decide (sgn u.n (u.v * 2 ^ (u.e - v.e).toNat) < 0) = s1 at *
  generalize decide (sgn v.n (v.v * 2 ^ (v.e - u.e).toNat) < 0) = s2 at *
  generalize decide (u.v * 2 ^ (u.e - v.e).toNat * 2 / (v.v * 2 ^ (v.e - u.e).toNat) % 2 = 1) = hh at *
  generalize (!decide (u.v * 2 ^ (u.e - v.e).toNat * 2 % (v.v * 2 ^ (v.e - u.e).toNat) = 0)) = tt at *
  generalize u.v * 2 ^ (u.e - v.e).toNat / (v.v * 2 ^ (v.e - u.e).toNat) = Q at *
  generalize cmpR (u.v * 2 ^ (u.e - v.e).toNat % (v.v * 2 ^ (v.e - u.e).toNat)) (v.v * 2 ^ (v.e - u.e).toNat) = cq at *
  generalize u.v * 2 ^ (u.e - v.e).toNat = U at *
  generalize v.v * 2 ^ (v.e - u.e).toNat = V at *
  generalize sgn (u.n != v.n) (wholeF r u v) = zz at *
  generalize wholeF r u v = W at *
  have hsn : (!u.n == v.n) = (u.n != v.n) := by cases u.n <;> cases v.n <;> rfl
  generalize (u.n != v.n) = sn at *
  refine Does.of (nt := 39) Tryz.func67 rfl rfl rfl (by simp) ?_
  simp only [argTm, PV.ext, Ce.ext]
  refine Do.seqk fun _ k1_ => ?_
  refine Do.region [0,4,5,6] true ?_
  simp [go_sem]
  apply k1_; clear k1_
  refine Do.seqk fun _ k2_ => ?_
  refine Do.region [0,4,5,6,7,8] true ?_
  simp [go_sem]
  repeat (refine And.intro (by first | omega | (intros; omega) | grind) ?_)
  refine DoL.call true 103 rfl rfl rfl rfl (by first | exact trivial | omega | (simp; done) | (simp; omega)) (hA) rfl (by first | exact .inl rfl | exact .inr rfl) rfl ?_
  simp [go_sem]
  repeat (refine And.intro (by first | omega | (intros; omega) | grind) ?_)
  apply k2_; clear k2_
  refine Do.seqk fun _ k3_ => ?_
  refine Do.region [0,6,7,8,10] true ?_
  simp [go_sem, hsn]
  repeat (refine And.intro (by first | omega | (intros; omega) | grind) ?_)
  apply k3_; clear k3_
  refine Do.seqk fun _ k4_ => ?_
  refine Do.region [6,10,11] true ?_
  simp [go_sem, hsn]
  repeat (refine And.intro (by first | omega | (intros; omega) | grind) ?_)
  refine DoL.call true 307 rfl rfl rfl rfl (by first | exact trivial | omega | (simp; done) | (simp; omega)) (hR) rfl (by first | exact .inl rfl | exact .inr rfl) rfl ?_
  simp [go_sem, hsn]
  refine DoL.call true 308 rfl rfl rfl rfl (by first | exact trivial | omega | (simp; done) | (simp; omega)) (hRd) rfl (by first | exact .inl rfl | exact .inr rfl) rfl ?_
  simp [go_sem, hsn]
  apply k4_; clear k4_
  refine Do.seqk fun _ k5_ => ?_
  refine Do.region [6] true ?_
  simp [go_sem, hsn]
  refine DoL.call true 403 rfl rfl rfl rfl (by first | exact trivial | omega | (simp; done) | (simp; omega)) (hM) rfl (by first | exact .inl rfl | exact .inr rfl) rfl ?_
  simp [go_sem, hsn]
  repeat (refine And.intro (by first | omega | (intros; omega) | grind) ?_)
  apply k5_; clear k5_
  refine Do.ret ?_
  simp [endQ, rets, ret1, go_sem, hsn]
  repeat (refine And.intro (by first | omega | (intros; omega) | grind) ?_)
  exact TLe.refl _
end Go.Proofs.YtbhokdhkfodpfaaGreatDoor
