/- The law ProductParts holds, for every input: the rounded product of two floats of up to 40 words and what it drops are the document's, or the error is. Conditions: the two listed package variables hold what the program's text lays (tied by the card). -/
import Derived.Test.YthpkhmbjmnhmoaaGreatDoorMm
import Derived.Test.YthpkhmbjmnhmoaaGreatDoorMk
import Derived.Test.YthpkhmbjmnhmoaaGreatDoorCards
import Derived.Test.YthpkhmbjmnhmoaaGreatDoorTie
import Derived.SevenTiedAt
/- The parts of a product. No condition. -/
namespace Go.Proofs.YthpkhmbjmnhmoaaGreatDoor
set_option linter.unusedVariables false
set_option linter.unusedSimpArgs false
set_option maxHeartbeats 4000000
set_option maxRecDepth 10000
theorem round_top {f p r : Int} (hf : fmOk f p = true) {n : Bool} {V : Nat} {z : Int} {st : Bool} (hk : (roundP f p r n V z st).1.k = 1) : tiny f p ≤ (roundP f p r n V z st).1.e ∧ (roundP f p r n V z st).1.e + bl (roundP f p r n V z st).1.v ≤ gOfE f + 1 := by
  obtain ⟨b1, b2, b3, b4⟩ := fmOk_spec hf
  obtain ⟨b5, b6⟩ := gOfE_le b1 b2
  have htn : tiny f p = 1 - gOfE f - (p - 1) := rfl
  have hu : 1 - gOfE f - (p - 1) ≤ stepP f p (z + bl V - 1) := by unfold stepP; split <;> omega
  unfold roundP at hk ⊢
  simp only [] at hk ⊢
  generalize stepP f p (z + bl V - 1) = u at *
  generalize upP r n (cutP V (u - z) st).1 (cutP V (u - z) st).2 = q at *
  split at hk
  · rename_i h
    rw [if_pos h]
    split at hk
    · rename_i h2
      rw [if_pos h2]
      simp only []
      have : bl (2 ^ p.toNat - 1) ≤ p.toNat := (bl_lt _ _).2 (by have := Nat.pow_pos (n := p.toNat) (show 0 < 2 by decide); omega)
      omega
    · simp at hk
  · rename_i h
    rw [if_neg h]
    simp only [] at hk ⊢
    unfold mkP at hk ⊢
    split at hk
    · simp at hk
    · rename_i hq
      rw [if_neg hq]
      simp only [bl_div]
      have := tz_lt_bl (show 0 < q by omega)
      omega
theorem roundT_low {f p r : Int} (hf : fmOk f p = true) {t : Bool × Int × Nu} (hk : (roundT t f p r).1.k = 1) : tiny f p ≤ (roundT t f p r).1.e ∧ (roundT t f p r).1.e + bl (roundT t f p r).1.v ≤ gOfE f + 1 := by
  unfold roundT at hk ⊢
  split at hk
  · simp at hk
  · rename_i h1
    rw [if_neg h1]
    split at hk
    · simp at hk
    · rename_i h2
      rw [if_neg h2]
      split at hk
      · rename_i h3; exact absurd hk h3
      · rename_i h3
        rw [if_neg h3]
        unfold Nu.round at hk ⊢
        split at hk
        · simp at hk
        · rename_i h4
          rw [if_neg h4]
          exact round_top hf hk
abbrev Z0 : Int := -1048576
/-- What is left of a product. -/
def leftT (t : Bool × Int × Nu) (s : Flt) : Int := fv Z0 (tFlt t) - fv Z0 s
theorem sv_natAbs' (z : Int) (y : Nu) : (y.sv z).natAbs = y.v * 2 ^ (y.e - z).toNat := by
  unfold Nu.sv
  split
  · rw [Int.natAbs_neg, Int.natAbs_natCast]
  · rw [Int.natAbs_natCast]
theorem fv_abs {z : Int} {x : Flt} {c : Int} (hz : z ≤ 0) (h : x.k = 1 → x.e + bl x.v ≤ c ∧ z ≤ x.e) (hc : 0 ≤ c) : bl (fv z x).natAbs ≤ (c - z).toNat := by
  unfold fv
  split
  · rename_i hk
    obtain ⟨h1, h2⟩ := h hk
    rw [sv_natAbs']
    simp only []
    rcases Nat.eq_zero_or_pos x.v with h0 | h0
    · rw [h0, Nat.zero_mul, bl_zero]; omega
    · rw [bl_mul_pow _ _ h0]; omega
  · simp [bl_zero]
theorem left_bl {t : Bool × Int × Nu} {s : Flt} (ht : t.2.1 = 1 → t.2.2.e + bl t.2.2.v ≤ 300000 ∧ Z0 ≤ t.2.2.e) (hs : s.k = 1 → s.e + bl s.v ≤ 300000 ∧ Z0 ≤ s.e) : bl (leftT t s).natAbs ≤ 1348577 := by
  have h1 := @fv_abs Z0 (tFlt t) 300000 (by decide) ht (by decide)
  have h2 := @fv_abs Z0 s 300000 (by decide) hs (by decide)
  have e : ((300000 : Int) - Z0).toNat = 1348576 := by decide
  rw [e] at h1 h2
  have h3 := bl_add_le _ _ _ h1 h2
  refine Nat.le_trans (bl_mono ?_) h3
  unfold leftT
  omega
theorem restP_canon {D : Int} (hD : bl D.natAbs ≤ 1348577) : (canon (restP Z0 D)).2 = true ∧ -1048576 ≤ (restP Z0 D).e ∧ (restP Z0 D).e ≤ 1048576 ∧ bl (restP Z0 D).v ≤ 1348577 := by
  unfold restP
  by_cases h : D = 0
  · rw [if_pos h]; exact ⟨rfl, by decide, by decide, by simp [bl_zero]⟩
  · rw [if_neg h]
    have hv : 0 < D.natAbs := by omega
    have htz := tz_lt_bl hv
    have hpos : 0 < D.natAbs / 2 ^ tz D.natAbs := Nat.div_pos ((bl_le _ _).1 htz) (Nat.pow_pos (by decide))
    have e2 : rcanon ⟨1, decide (D < 0), Z0, D.natAbs⟩ = ⟨1, decide (D < 0), Z0 + tz D.natAbs, D.natAbs / 2 ^ tz D.natAbs⟩ := by simp [rcanon]
    rw [e2]
    have hb : bl (D.natAbs / 2 ^ tz D.natAbs) ≤ bl D.natAbs := bl_mono (Nat.div_le_self _ _)
    have hz : (Z0 : Int) = -1048576 := rfl
    refine ⟨?_, by simp only []; omega, by simp only []; omega, by simp only []; omega⟩
    unfold canon
    simp only []
    rw [if_neg (by omega), if_neg (by omega), if_pos trivial, if_neg (by omega)]
    simp [tz_rest hv]; omega
section
variable {f p : Int} {x y : Fla}
theorem PParts_does (hx : x.Ok) (hy : y.Ok) (he : argsE f p 0 false [x, y] = 0) {a b s : Flt} {t : Bool × Int × Nu} (ea : (holdsP f p x.flt).1 = a) (eb : (holdsP f p y.flt).1 = b) (et : timesP a b = t) (es : (roundT t f p 0).1 = s) :
    ((s.k = 0 ∨ s.k = 1) → inP f p (restP Z0 (leftT t s)) = true → Does Tryz.prog Gv 26 [Fm f p, Fl x.k x.n x.e x.m, Fl y.k y.n y.e y.m] (.t [s.pv, (restP Z0 (leftT t s)).pv, .c (.i .i64 0)])) ∧
    (¬ ((s.k = 0 ∨ s.k = 1) ∧ inP f p (restP Z0 (leftT t s)) = true) → Does Tryz.prog Gv 26 [Fm f p, Fl x.k x.n x.e x.m, Fl y.k y.n y.e y.m] (.t [Flt.pv ⟨0, false, 0, 0⟩, Flt.pv ⟨0, false, 0, 0⟩, .c (.i .i64 4)])) := by
  have hl : [x, y].length < 1099511627776 := by simp
  have ho : ∀ u ∈ [x, y], u.Ok := by simp [hx, hy]
  have hA : DoesO Tryz.prog Gv 39 [Fm f p, .c (.i .i64 0), .c (.b false), .s false [x.cs, y.cs]] 4 [(holdsP f p x.flt).1.cs, (holdsP f p y.flt).1.cs] [.c (.i .i64 0)] := Args_own hl ho he
  obtain ⟨h1, h2, h3, h4, h5, h6⟩ := argsE_zero he
  have sx := held_small h5 (x := x.flt) (by simpa using List.all_eq_true.1 h6 x (by simp))
  have sy := held_small h5 (x := y.flt) (by simpa using List.all_eq_true.1 h6 y (by simp))
  rw [ea] at hA sx
  rw [eb] at hA sy
  have hT := @times_does Gv a b (by have := nat_len_bl a.v; omega) (by have := nat_len_bl b.v; omega) (by omega) (by omega)
  have hok := timesP_ok (x := a) (y := b) ⟨sx.1, sx.2.1, sx.2.2.1⟩ ⟨sy.1, sy.2.1, sy.2.2.1⟩
  have hkt := timesP_k a b
  have hzero : (timesP a b).2.1 = 0 → (timesP a b).2.2.v = 0 := by
    unfold timesP
    split
    · simp
    · split
      · simp
      · split <;> simp
  rw [et] at hT hok hkt hzero
  clear ea eb et
  have hR := @round_does f p 0 h5 (by decide) (by decide) t (fun _ => hok.1)
  obtain ⟨hsx, hsf⟩ := @roundT_fine f p 0 h5 t hkt
  have hlow := @roundT_low f p 0 h5 t
  have hsk : (roundT t f p 0).1.k = 0 ∨ (roundT t f p 0).1.k = 1 → t.1 = false ∧ (t.2.1 = 0 ∨ t.2.1 = 1) := by
    unfold roundT
    split
    · simp
    · rename_i h1
      split
      · simp
      · rename_i h2
        split
        · rename_i h3; intro h; exact ⟨by simpa using h1, h⟩
        · rename_i h3; intro _; exact ⟨by simpa using h1, by omega⟩
  rw [es] at hR hsx hsf hlow hsk
  generalize (roundT t f p 0).2 = fl at *
  obtain ⟨t0, t1⟩ := tiny_le h5
  obtain ⟨g1, g2⟩ : 1 ≤ gOfE f ∧ gOfE f ≤ 16383 := by
    obtain ⟨b1, b2, b3, b4⟩ := fmOk_spec h5
    exact gOfE_le b1 b2
  by_cases hk : s.k = 0 ∨ s.k = 1
  · obtain ⟨hn, htk⟩ := hsk hk
    have ns := rcanon_numb hsx hk
    have oks : -4194304 ≤ s.e ∧ s.e + bl s.v ≤ 1148576 ∧ Z0 ≤ s.e := by
      have hz : (Z0 : Int) = -1048576 := rfl
      rcases ns with h | ⟨_, h, h'⟩
      · have := hlow h; omega
      · rw [h, h', bl_zero]; omega
    have p2 := @Nu.plus_sv Z0 t.2.2 ⟨!s.n, s.v, s.e⟩ (by have hz : (Z0 : Int) = -1048576 := rfl; omega) oks.2.2
    have q2 := @Nu.plus_ok t.2.2 ⟨!s.n, s.v, s.e⟩ 1148577 (by omega) (by simp only []; omega)
    have P2 := @Plus_does Gv t.2.2 ⟨!s.n, s.v, s.e⟩ hok.1 ⟨oks.1, by simp only []; omega⟩
    generalize t.2.2.plus ⟨!s.n, s.v, s.e⟩ = y2 at *
    have hsv : y2.sv Z0 = leftT t s := by
      rw [p2.1, ns.neg_sv, leftT]
      have : fv Z0 (tFlt t) = Nu.sv Z0 t.2.2 := by
        unfold fv tFlt
        simp only []
        rcases htk with h | h
        · rw [if_neg (by omega)]
          unfold Nu.sv
          rw [hzero h]; simp
        · rw [if_pos h]
      omega
    obtain ⟨c1, c2⟩ := inP_flags h5 p2.2 hsv
    have hF := @NFloat_does f p 0 h5 (by decide) (by decide) y2 false ⟨q2.1, by omega⟩
    by_cases hin : inP f p (restP Z0 (leftT t s)) = true
    · rw [c1 hin] at hF
      refine ⟨fun _ _ => ?_, fun hno => absurd ⟨hk, hin⟩ hno⟩
      generalize restP Z0 (leftT t s) = u at *
      refine Does.of (nt := 64) Tryz.func26 rfl rfl rfl (by simp) ?_
      simp only [argTm, PV.ext, Ce.ext]
      refine Do.seqk fun _ k1_ => ?_
      refine Do.region [3,4,5,6,7] true ?_
      simp [go_sem]
      apply k1_; clear k1_
      refine Do.seqk fun _ k2_ => ?_
      refine Do.region [3,6,7,8,9] true ?_
      simp [go_sem]
      repeat (refine And.intro (by first | omega | (intros; omega) | (intros; exact And.intro (by assumption) (by omega)) | grind) ?_)
      refine DoL.sealS true 104 103 rfl ?_
      simp [go_sem]
      refine DoL.callO true 105 3000 rfl rfl rfl rfl (by first | exact trivial | omega | (simp; done) | (simp; omega)) (hA) rfl rfl rfl ?_
      simp [go_sem]
      apply k2_; clear k2_
      refine Do.seqk fun _ k3_ => ?_
      refine Do.seqk fun _ k4_ => ?_
      refine Do.region [3,6,7,8,9,22] true ?_
      simp [go_sem]
      apply k4_; clear k4_
      refine Do.cond [3,6,7,8,9] rfl (fun h => ?_) (fun h => ?_) <;> simp [go_sem] at h ⊢
      refine Do.skip ?_
      simp [go_sem]
      apply k3_; clear k3_
      refine Do.seqk fun _ k5_ => ?_
      refine Do.sealS 3000 rfl ?_
      simp [go_sem]
      refine Do.draw [3,6,7,10] true (by kernel_rfl) ?_
      simp [go_sem]
      repeat (refine And.intro (by first | omega | (intros; omega) | (intros; exact And.intro (by assumption) (by omega)) | kernel_rfl | grind) ?_)
      refine DoLD.call true 407 rfl rfl rfl rfl (by first | exact trivial | omega | (simp; done) | (simp; omega)) (hT) rfl (by first | exact .inl rfl | exact .inr rfl) rfl ?_
      simp [go_sem]
      repeat (refine And.intro (by first | omega | (intros; omega) | (intros; exact And.intro (by assumption) (by omega)) | kernel_rfl | grind) ?_)
      try (refine And.intro (by kernel_rfl) ?_)
      apply k5_; clear k5_
      refine Do.seqk fun _ k6_ => ?_
      refine Do.region [3,6,7,10] true ?_
      simp [go_sem]
      repeat (refine And.intro (by first | omega | (intros; omega) | (intros; exact And.intro (by assumption) (by omega)) | grind) ?_)
      refine DoL.call true 503 rfl rfl rfl rfl (by first | exact trivial | omega | (simp; done) | (simp; omega)) (hR) rfl (by first | exact .inl rfl | exact .inr rfl) rfl ?_
      simp [go_sem]
      repeat (refine And.intro (by first | omega | (intros; omega) | (intros; exact And.intro (by assumption) (by omega)) | grind) ?_)
      apply k6_; clear k6_
      refine Do.seqk fun _ k7_ => ?_
      refine Do.seqk fun _ k8_ => ?_
      refine Do.region [3,6,7,10,46] true ?_
      simp [go_sem]
      repeat (refine And.intro (by first | omega | (intros; omega) | (intros; exact And.intro (by assumption) (by omega)) | grind) ?_)
      apply k8_; clear k8_
      refine Do.cond [3,6,7,10] rfl (fun h7 => ?_) (fun h7 => ?_) <;> simp [go_sem] at h7 ⊢
      · refine Do.seqk fun _ k9_ => ?_
        refine Do.draw [6,7,11,12] true (by kernel_rfl) ?_
        simp [go_sem]
        repeat (refine And.intro (by first | omega | (intros; omega) | (intros; exact And.intro (by assumption) (by omega)) | kernel_rfl | grind) ?_)
        refine DoLD.call true 704 rfl rfl rfl rfl (by first | exact trivial | omega | (simp; done) | (simp; omega)) (Of_does) rfl (by first | exact .inl rfl | exact .inr rfl) rfl ?_
        simp [go_sem]
        refine DoLD.call true 705 rfl rfl rfl rfl (by first | exact trivial | omega | (simp; done) | (simp; omega)) (Minus_does) rfl (by first | exact .inl rfl | exact .inr rfl) rfl ?_
        simp [go_sem]
        refine DoLD.call true 706 rfl rfl rfl rfl (by first | exact trivial | omega | (simp; done) | (simp; omega)) (P2) rfl (by first | exact .inl rfl | exact .inr rfl) rfl ?_
        simp [go_sem]
        repeat (refine And.intro (by first | omega | (intros; omega) | (intros; exact And.intro (by assumption) (by omega)) | kernel_rfl | grind) ?_)
        refine DoLD.call true 708 rfl rfl rfl rfl (by first | exact trivial | omega | (simp; done) | (simp; omega)) (hF) rfl (by first | exact .inl rfl | exact .inr rfl) rfl ?_
        simp [go_sem]
        repeat (refine And.intro (by first | omega | (intros; omega) | (intros; exact And.intro (by assumption) (by omega)) | kernel_rfl | grind) ?_)
        try (refine And.intro (by kernel_rfl) ?_)
        apply k9_; clear k9_
        refine Do.seqk fun _ k10_ => ?_
        refine Do.region [6,7,11,59] true ?_
        simp [go_sem]
        apply k10_; clear k10_
        refine Do.cond [6,7,11] rfl (fun h8 => ?_) (fun h8 => ?_) <;> simp [go_sem] at h8 ⊢
        refine Do.seqk fun _ k11_ => ?_
        refine Do.draw [6,7,8] true (by kernel_rfl) ?_
        simp [go_sem]
        repeat (refine And.intro (by first | omega | (intros; omega) | (intros; exact And.intro (by assumption) (by omega)) | kernel_rfl | grind) ?_)
        try (refine And.intro (by kernel_rfl) ?_)
        apply k11_; clear k11_
        refine Do.ret ?_
        simp [endQ, rets, ret1, go_sem]
        repeat (refine And.intro (by first | omega | (intros; omega) | (intros; exact And.intro (by assumption) (by omega)) | grind) ?_)
        exact TLe.refl _
      · omega
    · have hfl : (y2.round f p 0 false).2 ≠ 0 := fun h => hin (c2 h)
      refine ⟨fun _ h => absurd h hin, fun _ => ?_⟩
      generalize y2.round f p 0 false = u at *
      refine Does.of (nt := 64) Tryz.func26 rfl rfl rfl (by simp) ?_
      simp only [argTm, PV.ext, Ce.ext]
      refine Do.seqk fun _ k1_ => ?_
      refine Do.region [3,4,5,6,7] true ?_
      simp [go_sem]
      apply k1_; clear k1_
      refine Do.seqk fun _ k2_ => ?_
      refine Do.region [3,6,7,8,9] true ?_
      simp [go_sem]
      repeat (refine And.intro (by first | omega | (intros; omega) | (intros; exact And.intro (by assumption) (by omega)) | grind) ?_)
      refine DoL.sealS true 104 103 rfl ?_
      simp [go_sem]
      refine DoL.callO true 105 3000 rfl rfl rfl rfl (by first | exact trivial | omega | (simp; done) | (simp; omega)) (hA) rfl rfl rfl ?_
      simp [go_sem]
      apply k2_; clear k2_
      refine Do.seqk fun _ k3_ => ?_
      refine Do.seqk fun _ k4_ => ?_
      refine Do.region [3,6,7,8,9,22] true ?_
      simp [go_sem]
      apply k4_; clear k4_
      refine Do.cond [3,6,7,8,9] rfl (fun h => ?_) (fun h => ?_) <;> simp [go_sem] at h ⊢
      refine Do.skip ?_
      simp [go_sem]
      apply k3_; clear k3_
      refine Do.seqk fun _ k5_ => ?_
      refine Do.sealS 3000 rfl ?_
      simp [go_sem]
      refine Do.draw [3,6,7,10] true (by kernel_rfl) ?_
      simp [go_sem]
      repeat (refine And.intro (by first | omega | (intros; omega) | (intros; exact And.intro (by assumption) (by omega)) | kernel_rfl | grind) ?_)
      refine DoLD.call true 407 rfl rfl rfl rfl (by first | exact trivial | omega | (simp; done) | (simp; omega)) (hT) rfl (by first | exact .inl rfl | exact .inr rfl) rfl ?_
      simp [go_sem]
      repeat (refine And.intro (by first | omega | (intros; omega) | (intros; exact And.intro (by assumption) (by omega)) | kernel_rfl | grind) ?_)
      try (refine And.intro (by kernel_rfl) ?_)
      apply k5_; clear k5_
      refine Do.seqk fun _ k6_ => ?_
      refine Do.region [3,6,7,10] true ?_
      simp [go_sem]
      repeat (refine And.intro (by first | omega | (intros; omega) | (intros; exact And.intro (by assumption) (by omega)) | grind) ?_)
      refine DoL.call true 503 rfl rfl rfl rfl (by first | exact trivial | omega | (simp; done) | (simp; omega)) (hR) rfl (by first | exact .inl rfl | exact .inr rfl) rfl ?_
      simp [go_sem]
      repeat (refine And.intro (by first | omega | (intros; omega) | (intros; exact And.intro (by assumption) (by omega)) | grind) ?_)
      apply k6_; clear k6_
      refine Do.seqk fun _ k7_ => ?_
      refine Do.seqk fun _ k8_ => ?_
      refine Do.region [3,6,7,10,46] true ?_
      simp [go_sem]
      repeat (refine And.intro (by first | omega | (intros; omega) | (intros; exact And.intro (by assumption) (by omega)) | grind) ?_)
      apply k8_; clear k8_
      refine Do.cond [3,6,7,10] rfl (fun h7 => ?_) (fun h7 => ?_) <;> simp [go_sem] at h7 ⊢
      · refine Do.seqk fun _ k9_ => ?_
        refine Do.draw [6,7,11,12] true (by kernel_rfl) ?_
        simp [go_sem]
        repeat (refine And.intro (by first | omega | (intros; omega) | (intros; exact And.intro (by assumption) (by omega)) | kernel_rfl | grind) ?_)
        refine DoLD.call true 704 rfl rfl rfl rfl (by first | exact trivial | omega | (simp; done) | (simp; omega)) (Of_does) rfl (by first | exact .inl rfl | exact .inr rfl) rfl ?_
        simp [go_sem]
        refine DoLD.call true 705 rfl rfl rfl rfl (by first | exact trivial | omega | (simp; done) | (simp; omega)) (Minus_does) rfl (by first | exact .inl rfl | exact .inr rfl) rfl ?_
        simp [go_sem]
        refine DoLD.call true 706 rfl rfl rfl rfl (by first | exact trivial | omega | (simp; done) | (simp; omega)) (P2) rfl (by first | exact .inl rfl | exact .inr rfl) rfl ?_
        simp [go_sem]
        repeat (refine And.intro (by first | omega | (intros; omega) | (intros; exact And.intro (by assumption) (by omega)) | kernel_rfl | grind) ?_)
        refine DoLD.call true 708 rfl rfl rfl rfl (by first | exact trivial | omega | (simp; done) | (simp; omega)) (hF) rfl (by first | exact .inl rfl | exact .inr rfl) rfl ?_
        simp [go_sem]
        repeat (refine And.intro (by first | omega | (intros; omega) | (intros; exact And.intro (by assumption) (by omega)) | kernel_rfl | grind) ?_)
        try (refine And.intro (by kernel_rfl) ?_)
        apply k9_; clear k9_
        refine Do.seqk fun _ k10_ => ?_
        refine Do.region [6,7,11,59] true ?_
        simp [go_sem]
        apply k10_; clear k10_
        refine Do.cond [6,7,11] rfl (fun h8 => ?_) (fun h8 => ?_) <;> simp [go_sem] at h8 ⊢
        · exact absurd h8 hfl
        · refine Do.skip ?_
          simp [go_sem]
          apply k7_; clear k7_
          refine Do.seqk fun _ k11_ => ?_
          refine Do.region [6,7,8] true ?_
          simp [go_sem]
          repeat (refine And.intro (by first | omega | (intros; omega) | (intros; exact And.intro (by assumption) (by omega)) | grind) ?_)
          apply k11_; clear k11_
          refine Do.ret ?_
          simp [endQ, rets, ret1, go_sem]
          repeat (refine And.intro (by first | omega | (intros; omega) | (intros; exact And.intro (by assumption) (by omega)) | grind) ?_)
          exact TLe.t (.cons (PLe.flt (ret_z rfl)) (.cons (PLe.flt (ret_z rfl)) (.cons (PLe.refl _) .nil)))
      · omega
  · refine ⟨fun h => absurd h hk, fun _ => ?_⟩
    refine Does.of (nt := 64) Tryz.func26 rfl rfl rfl (by simp) ?_
    simp only [argTm, PV.ext, Ce.ext]
    refine Do.seqk fun _ k1_ => ?_
    refine Do.region [3,4,5,6,7] true ?_
    simp [go_sem]
    apply k1_; clear k1_
    refine Do.seqk fun _ k2_ => ?_
    refine Do.region [3,6,7,8,9] true ?_
    simp [go_sem]
    repeat (refine And.intro (by first | omega | (intros; omega) | (intros; exact And.intro (by assumption) (by omega)) | grind) ?_)
    refine DoL.sealS true 104 103 rfl ?_
    simp [go_sem]
    refine DoL.callO true 105 3000 rfl rfl rfl rfl (by first | exact trivial | omega | (simp; done) | (simp; omega)) (hA) rfl rfl rfl ?_
    simp [go_sem]
    apply k2_; clear k2_
    refine Do.seqk fun _ k3_ => ?_
    refine Do.seqk fun _ k4_ => ?_
    refine Do.region [3,6,7,8,9,22] true ?_
    simp [go_sem]
    apply k4_; clear k4_
    refine Do.cond [3,6,7,8,9] rfl (fun h => ?_) (fun h => ?_) <;> simp [go_sem] at h ⊢
    refine Do.skip ?_
    simp [go_sem]
    apply k3_; clear k3_
    refine Do.seqk fun _ k5_ => ?_
    refine Do.sealS 3000 rfl ?_
    simp [go_sem]
    refine Do.draw [3,6,7,10] true (by kernel_rfl) ?_
    simp [go_sem]
    repeat (refine And.intro (by first | omega | (intros; omega) | (intros; exact And.intro (by assumption) (by omega)) | kernel_rfl | grind) ?_)
    refine DoLD.call true 407 rfl rfl rfl rfl (by first | exact trivial | omega | (simp; done) | (simp; omega)) (hT) rfl (by first | exact .inl rfl | exact .inr rfl) rfl ?_
    simp [go_sem]
    repeat (refine And.intro (by first | omega | (intros; omega) | (intros; exact And.intro (by assumption) (by omega)) | kernel_rfl | grind) ?_)
    try (refine And.intro (by kernel_rfl) ?_)
    apply k5_; clear k5_
    refine Do.seqk fun _ k6_ => ?_
    refine Do.region [3,6,7,10] true ?_
    simp [go_sem]
    repeat (refine And.intro (by first | omega | (intros; omega) | (intros; exact And.intro (by assumption) (by omega)) | grind) ?_)
    refine DoL.call true 503 rfl rfl rfl rfl (by first | exact trivial | omega | (simp; done) | (simp; omega)) (hR) rfl (by first | exact .inl rfl | exact .inr rfl) rfl ?_
    simp [go_sem]
    repeat (refine And.intro (by first | omega | (intros; omega) | (intros; exact And.intro (by assumption) (by omega)) | grind) ?_)
    apply k6_; clear k6_
    refine Do.seqk fun _ k7_ => ?_
    refine Do.seqk fun _ k8_ => ?_
    refine Do.region [3,6,7,10,46] true ?_
    simp [go_sem]
    repeat (refine And.intro (by first | omega | (intros; omega) | (intros; exact And.intro (by assumption) (by omega)) | grind) ?_)
    apply k8_; clear k8_
    refine Do.cond [3,6,7,10] rfl (fun h7 => ?_) (fun h7 => ?_) <;> simp [go_sem] at h7 ⊢
    · omega
    · refine Do.skip ?_
      simp [go_sem]
      apply k7_; clear k7_
      refine Do.seqk fun _ k9_ => ?_
      refine Do.region [6,7,8] true ?_
      simp [go_sem]
      repeat (refine And.intro (by first | omega | (intros; omega) | (intros; exact And.intro (by assumption) (by omega)) | grind) ?_)
      apply k9_; clear k9_
      refine Do.ret ?_
      simp [endQ, rets, ret1, go_sem]
      repeat (refine And.intro (by first | omega | (intros; omega) | (intros; exact And.intro (by assumption) (by omega)) | grind) ?_)
      exact TLe.t (.cons (PLe.flt (ret_z rfl)) (.cons (PLe.flt (ret_z rfl)) (.cons (PLe.refl _) .nil)))
end
end Go.Proofs.YthpkhmbjmnhmoaaGreatDoor
/- The law ProductParts. No condition. -/
namespace Go.Proofs.YthpkhmbjmnhmoaaGreatDoor
set_option linter.unusedVariables false
set_option linter.unusedSimpArgs false
set_option maxHeartbeats 4000000
set_option maxRecDepth 10000
theorem Parts_err {f p : Int} {x y : Fla} (hx : x.Ok) (hy : y.Ok) (he : argsE f p 0 false [x, y] ≠ 0) : Does Tryz.prog Gv 26 [Fm f p, Fl x.k x.n x.e x.m, Fl y.k y.n y.e y.m] (.t [Flt.pv ⟨0, false, 0, 0⟩, Flt.pv ⟨0, false, 0, 0⟩, .c (.i .i64 (argsE f p 0 false [x, y]))]) := by
  have hA : Does Tryz.prog Gv 39 [Fm f p, .c (.i .i64 0), .c (.b false), .s false [x.cs, y.cs]] (.t [.c .z, .c (.i .i64 (argsE f p 0 false [x, y]))]) := Args_err (by simp) (by simp [hx, hy]) he
  generalize argsE f p 0 false [x, y] = z at *
  refine Does.of (nt := 64) Tryz.func26 rfl rfl rfl (by simp) ?_
  simp only [argTm, PV.ext, Ce.ext]
  refine Do.seqk fun _ k1_ => ?_
  refine Do.region [3,4,5,6,7] true ?_
  simp [go_sem]
  apply k1_; clear k1_
  refine Do.seqk fun _ k2_ => ?_
  refine Do.region [3,6,7,8,9] true ?_
  simp [go_sem]
  repeat (refine And.intro (by first | omega | (intros; omega) | (intros; exact And.intro (by assumption) (by omega)) | grind) ?_)
  refine DoL.sealS true 104 103 rfl ?_
  simp [go_sem]
  refine DoL.call true 105 rfl rfl rfl rfl (by first | exact trivial | omega | (simp; done) | (simp; omega)) (hA) rfl (by first | exact .inl rfl | exact .inr rfl) rfl ?_
  simp [go_sem]
  apply k2_; clear k2_
  refine Do.seqk fun _ k3_ => ?_
  refine Do.seqk fun _ k4_ => ?_
  refine Do.region [3,6,7,8,9,22] true ?_
  simp [go_sem]
  apply k4_; clear k4_
  refine Do.cond [3,6,7,8,9] rfl (fun h => ?_) (fun h => ?_) <;> simp [go_sem] at h ⊢
  · refine Do.seqk fun _ k5_ => ?_
    refine Do.region [6,7,8] true ?_
    simp [go_sem]
    repeat (refine And.intro (by first | omega | (intros; omega) | (intros; exact And.intro (by assumption) (by omega)) | grind) ?_)
    apply k5_; clear k5_
    refine Do.ret ?_
    simp [endQ, rets, ret1, go_sem]
    repeat (refine And.intro (by first | omega | (intros; omega) | (intros; exact And.intro (by assumption) (by omega)) | grind) ?_)
    exact TLe.t (.cons (PLe.flt (ret_z rfl)) (.cons (PLe.flt (ret_z rfl)) (.cons (PLe.refl _) .nil)))
  · exact absurd h he
section
variable {f p : Int} {x y : Fla}
theorem RParts_does (hf : fmOk f p = true) (hx : Rs x) (hy : Rs y) {t : Bool × Int × Nu} {s : Flt} (et : timesP (rcanon x.flt) (rcanon y.flt) = t) (es : (roundT t f p 0).1 = s) :
    ((s.k = 0 ∨ s.k = 1) → inP f p (restP Z0 (leftT t s)) = true → Does Tryz.prog Gv 29 [Fm f p, Fl x.k x.n x.e x.m, Fl y.k y.n y.e y.m] (.t [s.pw, (restP Z0 (leftT t s)).pw, .c (.b true)])) ∧
    (¬ ((s.k = 0 ∨ s.k = 1) ∧ inP f p (restP Z0 (leftT t s)) = true) → Does Tryz.prog Gv 29 [Fm f p, Fl x.k x.n x.e x.m, Fl y.k y.n y.e y.m] (.t [Flt.pw ⟨0, false, 0, 0⟩, Flt.pw ⟨0, false, 0, 0⟩, .c (.b false)])) := by
  have cx := Cf.of hx.rt.can
  have cy := Cf.of hy.rt.can
  have hM := @RMul18_does Gv f p 0 hf (by decide) (by decide) x y hx.rt hy.rt
  rw [← mulR_rc, ← times_mul cx cy, et] at hM
  have hok := timesP_ok (x := rcanon x.flt) (y := rcanon y.flt) ⟨hx.lo, hx.hi, hx.bl⟩ ⟨hy.lo, hy.hi, hy.bl⟩
  have hkt := timesP_k (rcanon x.flt) (rcanon y.flt)
  have hP := @Product_does Gv x y hx.rt hy.rt
  have hprt := prodF_rt hx hy
  have hlike := pair_like cx cy
  have hpok := pair_ok cx cy
  rw [prodF_rc] at hlike hpok
  rw [et] at hok hkt hlike hpok
  clear et
  obtain ⟨hsx, hsf⟩ := @roundT_fine f p 0 hf t hkt
  have hlow := @roundT_low f p 0 hf t
  have hsk : (roundT t f p 0).1.k = 0 ∨ (roundT t f p 0).1.k = 1 → t.1 = false ∧ t.2.1 ≠ 3 := by
    unfold roundT
    split
    · simp
    · rename_i h1
      split
      · simp
      · rename_i h2
        intro _
        exact ⟨by simpa using h1, h2⟩
  have hk4 : (roundT t f p 0).1.k = 0 ∨ (roundT t f p 0).1.k = 1 ∨ (roundT t f p 0).1.k = 2 ∨ (roundT t f p 0).1.k = 3 := (canon_kind hsf.can).1
  rw [es] at hM hsx hsf hlow hsk hk4
  generalize (roundT t f p 0).2 = fl at *
  generalize prodF x.flt y.flt = q at *
  obtain ⟨t0, t1⟩ := tiny_le hf
  obtain ⟨g1, g2⟩ : 1 ≤ gOfE f ∧ gOfE f ≤ 16383 := by
    obtain ⟨b1, b2, b3, b4⟩ := fmOk_spec hf
    exact gOfE_le b1 b2
  have hz0 : (Z0 : Int) = -1048576 := rfl
  by_cases hk : s.k = 0 ∨ s.k = 1
  · obtain ⟨hn, h3⟩ := hsk hk
    obtain ⟨k1, k2, k3⟩ := hlike h3 hn
    have hs1 : s.k = 1 → s.e + bl s.v ≤ 300000 ∧ Z0 ≤ s.e := fun h => by have := hlow h; omega
    have hrs : Rt s.fla := ⟨by rw [Flt.fla_flt]; exact hsf.can, nat_ws _, by have := len_bl hsf.v; show (nat s.v).length ≤ 4096; omega⟩
    have hqe : q.1.k = 1 → Z0 ≤ q.1.e := fun h => by have := (k3 h).2; omega
    have hZ := @Rest_new Gv [q.1.fla] [s.fla] (by simp) (by simp [hprt]) (by simp [hrs]) [rcanon q.1] [s] (by simp [Flt.fla_flt]) (by simp [Flt.fla_flt, hsx]) Z0 (by decide) (by
      intro u hu hk1
      simp only [List.cons_append, List.nil_append, List.map_cons, List.map_nil, List.mem_cons, List.not_mem_nil, or_false] at hu
      rcases hu with rfl | rfl
      · rw [rcanon_k] at hk1
        have h5 := hqe hk1
        have : q.1.e ≤ (rcanon q.1).e := by simp only [rcanon, hk1, if_true]; omega
        omega
      · exact (hs1 hk1).2)
    have hD : svs Z0 ([rcanon q.1] ++ [s].map Flt.neg) = leftT t s := by
      rw [svs_fv]
      simp only [List.cons_append, List.nil_append, List.map_cons, List.map_nil, List.sum_cons, List.sum_nil, fv_neg, leftT]
      rw [fv_rcan hqe]
      have : fv Z0 q.1 = fv Z0 (tFlt t) := by
        unfold fv tFlt
        simp only []
        rw [← k1]
        split
        · rename_i h
          obtain ⟨k4, k5⟩ := k3 h
          rw [k2, k4, k5]
        · rfl
      omega
    rw [hD] at hZ
    have hbl := @left_bl t s (fun h => ⟨by omega, by omega⟩) hs1
    obtain ⟨r1, r2, r3, r4⟩ := restP_canon hbl
    have hfx := restP_fix Z0 (leftT t s)
    generalize restP Z0 (leftT t s) = u at *
    have hZ : Does Tryz.prog Gv 69 [.s false [q.1.cs], .s false [s.cs]] (.v u.pw) := hZ
    have hlu := len_bl r4
    have hG := @Good_does Gv u.k u.e u.n (nat u.v) (by omega) (nat_ws _)
    have hI := @In_does Gv f p u.k u.e u.n (nat u.v) hf (by omega) (nat_ws _) (by constructor <;> omega)
    rw [val_nat, show (⟨u.k, u.n, u.e, u.v⟩ : Flt) = u from rfl] at hG hI
    rw [r1] at hG
    cases hin : inP f p u with
    | true =>
      rw [hin] at hI
      refine ⟨fun _ _ => ?_, fun hno => absurd ⟨hk, rfl⟩ hno⟩
      refine Does.of (nt := 55) Tryz.func29 rfl rfl rfl (by simp) ?_
      simp only [argTm, PV.ext, Ce.ext]
      refine Do.seqk fun _ k1_ => ?_
      refine Do.region [3,4,5,6,7] true ?_
      simp [go_sem]
      apply k1_; clear k1_
      refine Do.seqk fun _ k2_ => ?_
      refine Do.region [3,4,5,6,7,9] true ?_
      simp [go_sem]
      repeat (refine And.intro (by first | omega | (intros; omega) | (intros; exact And.intro (by assumption) (by omega)) | grind) ?_)
      refine DoL.call true 104 rfl rfl rfl rfl (by first | exact trivial | omega | (simp; done) | (simp; omega)) (hM) rfl (by first | exact .inl rfl | exact .inr rfl) rfl ?_
      simp [go_sem]
      repeat (refine And.intro (by first | omega | (intros; omega) | (intros; exact And.intro (by assumption) (by omega)) | grind) ?_)
      apply k2_; clear k2_
      refine Do.seqk fun _ k3_ => ?_
      refine Do.seqk fun _ k4_ => ?_
      refine Do.region [3,4,5,6,7,9,28] true ?_
      simp [go_sem]
      repeat (refine And.intro (by first | omega | (intros; omega) | (intros; exact And.intro (by assumption) (by omega)) | grind) ?_)
      apply k4_; clear k4_
      refine Do.cond [3,4,5,6,7,9] rfl (fun h2 => ?_) (fun h2 => ?_) <;> simp [go_sem] at h2 ⊢
      · omega
      · refine Do.skip ?_
        simp [go_sem]
        apply k3_; clear k3_
        refine Do.seqk fun _ k5_ => ?_
        refine Do.region [3,6,7,9,11] true ?_
        simp [go_sem]
        repeat (refine And.intro (by first | omega | (intros; omega) | (intros; exact And.intro (by assumption) (by omega)) | grind) ?_)
        refine DoL.call true 403 rfl rfl rfl rfl (by first | exact trivial | omega | (simp; done) | (simp; omega)) (hP) rfl (by first | exact .inl rfl | exact .inr rfl) rfl ?_
        simp [go_sem]
        repeat (refine And.intro (by first | omega | (intros; omega) | (intros; exact And.intro (by assumption) (by omega)) | grind) ?_)
        apply k5_; clear k5_
        refine Do.seqk fun _ k6_ => ?_
        refine Do.region [3,6,7,9,13] true ?_
        simp [go_sem]
        repeat (refine And.intro (by first | omega | (intros; omega) | (intros; exact And.intro (by assumption) (by omega)) | grind) ?_)
        refine DoL.sealS true 504 501 rfl ?_
        simp [go_sem]
        refine DoL.sealS true 504 503 rfl ?_
        simp [go_sem]
        refine DoL.call true 505 rfl rfl rfl rfl (by first | exact trivial | omega | (simp; done) | (simp; omega)) (hZ) rfl (by first | exact .inl rfl | exact .inr rfl) rfl ?_
        simp [go_sem]
        repeat (refine And.intro (by first | omega | (intros; omega) | (intros; exact And.intro (by assumption) (by omega)) | grind) ?_)
        apply k6_; clear k6_
        refine Do.seqk fun _ k7_ => ?_
        refine Do.seqk fun _ k8_ => ?_
        refine Do.region [6,7,9,13,50] true ?_
        simp [go_sem]
        repeat (refine And.intro (by first | omega | (intros; omega) | (intros; exact And.intro (by assumption) (by omega)) | grind) ?_)
        refine DoL.call true 602 rfl rfl rfl rfl (by first | exact trivial | omega | (simp; done) | (simp; omega)) (hG) rfl (by first | exact .inl rfl | exact .inr rfl) rfl ?_
        simp [go_sem]
        repeat (refine And.intro (by first | omega | (intros; omega) | (intros; exact And.intro (by assumption) (by omega)) | grind) ?_)
        refine DoL.callg true 607 rfl rfl rfl rfl rfl (by simp [go_sem] <;> omega) (fun _ => hI) rfl (by first | exact .inl rfl | exact .inr rfl) rfl ?_
        simp [go_sem]
        repeat (refine And.intro (by first | omega | (intros; omega) | (intros; exact And.intro (by assumption) (by omega)) | grind) ?_)
        apply k8_; clear k8_
        refine Do.cond [6,7,9,13] rfl (fun h6 => ?_) (fun h6 => ?_) <;> simp [go_sem] at h6 ⊢
        refine Do.skip ?_
        simp [go_sem]
        apply k7_; clear k7_
        refine Do.seqk fun _ k9_ => ?_
        refine Do.draw [6,7,8] true (by kernel_rfl) ?_
        simp [go_sem]
        repeat (refine And.intro (by first | omega | (intros; omega) | (intros; exact And.intro (by assumption) (by omega)) | kernel_rfl | grind) ?_)
        try (refine And.intro (by kernel_rfl) ?_)
        apply k9_; clear k9_
        refine Do.ret ?_
        simp [endQ, rets, ret1, go_sem]
        repeat (refine And.intro (by first | omega | (intros; omega) | (intros; exact And.intro (by assumption) (by omega)) | grind) ?_)
        exact TLe.refl _
    | false =>
      rw [hin] at hI
      refine ⟨fun _ h => (by cases h), fun _ => ?_⟩
      refine Does.of (nt := 55) Tryz.func29 rfl rfl rfl (by simp) ?_
      simp only [argTm, PV.ext, Ce.ext]
      refine Do.seqk fun _ k1_ => ?_
      refine Do.region [3,4,5,6,7] true ?_
      simp [go_sem]
      apply k1_; clear k1_
      refine Do.seqk fun _ k2_ => ?_
      refine Do.region [3,4,5,6,7,9] true ?_
      simp [go_sem]
      repeat (refine And.intro (by first | omega | (intros; omega) | (intros; exact And.intro (by assumption) (by omega)) | grind) ?_)
      refine DoL.call true 104 rfl rfl rfl rfl (by first | exact trivial | omega | (simp; done) | (simp; omega)) (hM) rfl (by first | exact .inl rfl | exact .inr rfl) rfl ?_
      simp [go_sem]
      repeat (refine And.intro (by first | omega | (intros; omega) | (intros; exact And.intro (by assumption) (by omega)) | grind) ?_)
      apply k2_; clear k2_
      refine Do.seqk fun _ k3_ => ?_
      refine Do.seqk fun _ k4_ => ?_
      refine Do.region [3,4,5,6,7,9,28] true ?_
      simp [go_sem]
      repeat (refine And.intro (by first | omega | (intros; omega) | (intros; exact And.intro (by assumption) (by omega)) | grind) ?_)
      apply k4_; clear k4_
      refine Do.cond [3,4,5,6,7,9] rfl (fun h2 => ?_) (fun h2 => ?_) <;> simp [go_sem] at h2 ⊢
      · omega
      · refine Do.skip ?_
        simp [go_sem]
        apply k3_; clear k3_
        refine Do.seqk fun _ k5_ => ?_
        refine Do.region [3,6,7,9,11] true ?_
        simp [go_sem]
        repeat (refine And.intro (by first | omega | (intros; omega) | (intros; exact And.intro (by assumption) (by omega)) | grind) ?_)
        refine DoL.call true 403 rfl rfl rfl rfl (by first | exact trivial | omega | (simp; done) | (simp; omega)) (hP) rfl (by first | exact .inl rfl | exact .inr rfl) rfl ?_
        simp [go_sem]
        repeat (refine And.intro (by first | omega | (intros; omega) | (intros; exact And.intro (by assumption) (by omega)) | grind) ?_)
        apply k5_; clear k5_
        refine Do.seqk fun _ k6_ => ?_
        refine Do.region [3,6,7,9,13] true ?_
        simp [go_sem]
        repeat (refine And.intro (by first | omega | (intros; omega) | (intros; exact And.intro (by assumption) (by omega)) | grind) ?_)
        refine DoL.sealS true 504 501 rfl ?_
        simp [go_sem]
        refine DoL.sealS true 504 503 rfl ?_
        simp [go_sem]
        refine DoL.call true 505 rfl rfl rfl rfl (by first | exact trivial | omega | (simp; done) | (simp; omega)) (hZ) rfl (by first | exact .inl rfl | exact .inr rfl) rfl ?_
        simp [go_sem]
        repeat (refine And.intro (by first | omega | (intros; omega) | (intros; exact And.intro (by assumption) (by omega)) | grind) ?_)
        apply k6_; clear k6_
        refine Do.seqk fun _ k7_ => ?_
        refine Do.seqk fun _ k8_ => ?_
        refine Do.region [6,7,9,13,50] true ?_
        simp [go_sem]
        repeat (refine And.intro (by first | omega | (intros; omega) | (intros; exact And.intro (by assumption) (by omega)) | grind) ?_)
        refine DoL.call true 602 rfl rfl rfl rfl (by first | exact trivial | omega | (simp; done) | (simp; omega)) (hG) rfl (by first | exact .inl rfl | exact .inr rfl) rfl ?_
        simp [go_sem]
        repeat (refine And.intro (by first | omega | (intros; omega) | (intros; exact And.intro (by assumption) (by omega)) | grind) ?_)
        refine DoL.callg true 607 rfl rfl rfl rfl rfl (by simp [go_sem] <;> omega) (fun _ => hI) rfl (by first | exact .inl rfl | exact .inr rfl) rfl ?_
        simp [go_sem]
        repeat (refine And.intro (by first | omega | (intros; omega) | (intros; exact And.intro (by assumption) (by omega)) | grind) ?_)
        apply k8_; clear k8_
        refine Do.cond [6,7,9,13] rfl (fun h6 => ?_) (fun h6 => ?_) <;> simp [go_sem] at h6 ⊢
        refine Do.seqk fun _ k9_ => ?_
        refine Do.region [6,7,8] true ?_
        simp [go_sem]
        repeat (refine And.intro (by first | omega | (intros; omega) | (intros; exact And.intro (by assumption) (by omega)) | grind) ?_)
        apply k9_; clear k9_
        refine Do.ret ?_
        simp [endQ, rets, ret1, go_sem]
        repeat (refine And.intro (by first | omega | (intros; omega) | (intros; exact And.intro (by assumption) (by omega)) | grind) ?_)
        exact TLe.t (.cons (PLe.flw (ret_zw rfl)) (.cons (PLe.flw (ret_zw rfl)) (.cons (PLe.refl _) .nil)))
  · refine ⟨fun h => absurd h hk, fun _ => ?_⟩
    refine Does.of (nt := 55) Tryz.func29 rfl rfl rfl (by simp) ?_
    simp only [argTm, PV.ext, Ce.ext]
    refine Do.seqk fun _ k1_ => ?_
    refine Do.region [3,4,5,6,7] true ?_
    simp [go_sem]
    apply k1_; clear k1_
    refine Do.seqk fun _ k2_ => ?_
    refine Do.region [3,4,5,6,7,9] true ?_
    simp [go_sem]
    repeat (refine And.intro (by first | omega | (intros; omega) | (intros; exact And.intro (by assumption) (by omega)) | grind) ?_)
    refine DoL.call true 104 rfl rfl rfl rfl (by first | exact trivial | omega | (simp; done) | (simp; omega)) (hM) rfl (by first | exact .inl rfl | exact .inr rfl) rfl ?_
    simp [go_sem]
    repeat (refine And.intro (by first | omega | (intros; omega) | (intros; exact And.intro (by assumption) (by omega)) | grind) ?_)
    apply k2_; clear k2_
    refine Do.seqk fun _ k3_ => ?_
    refine Do.seqk fun _ k4_ => ?_
    refine Do.region [3,4,5,6,7,9,28] true ?_
    simp [go_sem]
    repeat (refine And.intro (by first | omega | (intros; omega) | (intros; exact And.intro (by assumption) (by omega)) | grind) ?_)
    apply k4_; clear k4_
    refine Do.cond [3,4,5,6,7,9] rfl (fun h2 => ?_) (fun h2 => ?_) <;> simp [go_sem] at h2 ⊢
    · refine Do.seqk fun _ k5_ => ?_
      refine Do.region [6,7,8] true ?_
      simp [go_sem]
      repeat (refine And.intro (by first | omega | (intros; omega) | (intros; exact And.intro (by assumption) (by omega)) | grind) ?_)
      apply k5_; clear k5_
      refine Do.ret ?_
      simp [endQ, rets, ret1, go_sem]
      repeat (refine And.intro (by first | omega | (intros; omega) | (intros; exact And.intro (by assumption) (by omega)) | grind) ?_)
      exact TLe.t (.cons (PLe.flw (ret_zw rfl)) (.cons (PLe.flw (ret_zw rfl)) (.cons (PLe.refl _) .nil)))
    · omega
end
theorem LIs_same18 {G : Gl} {x : Flt} (hc : (canon x).2 = true) (hv : bl x.v ≤ 2000000) (h : rcanon x = x) : Does Tryz.prog G 30 [x.pv, x.pv] (.v (.c (.b true))) := by
  have hl : (nat x.v).length ≤ 1073741824 := by have := nat_len_bl x.v; omega
  have := @LIs_does G x.k x.e x.n (nat x.v) x.k x.e x.n (nat x.v) hl (nat_ws _) hl (nat_ws _) (good_md hc)
  rw [val_nat, show (⟨x.k, x.n, x.e, x.v⟩ : Flt) = x from rfl, h, show isP x.k x.n x.e (nat x.v) x = true by simp [isP]] at this
  exact this
theorem ProductParts_does {f p : Int} {x y : Fla} (hx : Ws x.m) (ex : I64 x.e) (hy : Ws y.m) (ey : I64 y.e) : Does Tryz.prog Gv 7 [Fm f p, Fl x.k x.n x.e x.m, Fl y.k y.n y.e y.m] (.v (.c (.b true))) := by
  have hS : Does Tryz.prog Gv 10 [.s false [x.cs, y.cs]] (.v (.c (.b (shortP [x, y])))) := Short15_does (l := [x, y]) (by simp)
  cases hs : shortP [x, y] with
  | false =>
    rw [hs] at hS
    refine Does.of (nt := 93) Tryz.func7 rfl rfl rfl (by simp) ?_
    simp only [argTm, PV.ext, Ce.ext]
    refine Do.seqk fun _ k1_ => ?_
    refine Do.region [3,4,5] true ?_
    simp [go_sem]
    apply k1_; clear k1_
    refine Do.seqk fun _ k2_ => ?_
    refine Do.seqk fun _ k3_ => ?_
    refine Do.region [3,4,5,18] true ?_
    simp [go_sem]
    repeat (refine And.intro (by first | omega | (intros; omega) | (intros; exact And.intro (by assumption) (by omega)) | grind) ?_)
    refine DoL.sealS true 103 102 rfl ?_
    simp [go_sem]
    refine DoL.call true 104 rfl rfl rfl rfl (by first | exact trivial | omega | (simp; done) | (simp; omega)) (hS) rfl (by first | exact .inl rfl | exact .inr rfl) rfl ?_
    simp [go_sem]
    repeat (refine And.intro (by first | omega | (intros; omega) | (intros; exact And.intro (by assumption) (by omega)) | grind) ?_)
    apply k3_; clear k3_
    refine Do.cond [3,4,5] rfl (fun h => ?_) (fun h => ?_) <;> simp [go_sem] at h ⊢
    refine Do.seqk fun _ k4_ => ?_
    refine Do.region [6] true ?_
    simp [go_sem]
    refine DoL.call true 201 rfl rfl rfl rfl (by first | exact trivial | omega | (simp; done) | (simp; omega)) (awake18_does) rfl (by first | exact .inl rfl | exact .inr rfl) rfl ?_
    simp [go_sem]
    apply k4_; clear k4_
    refine Do.ret ?_
    simp [endQ, rets, ret1, go_sem]
    repeat (refine And.intro (by first | omega | (intros; omega) | (intros; exact And.intro (by assumption) (by omega)) | grind) ?_)
    exact TLe.refl _
  | true =>
    rw [hs] at hS
    have hsx : x.m.length ≤ 40 ∧ y.m.length ≤ 40 := by simpa [shortP] using hs
    have ox : x.Ok := ⟨by simp [Sh]; omega, hx, ex⟩
    have oy : y.Ok := ⟨by simp [Sh]; omega, hy, ey⟩
    have ho : ∀ u ∈ [x, y], u.Ok := by simp [ox, oy]
    have hC : Does Tryz.prog Gv 27 [Fm f p, .s false [x.cs, y.cs]] (.int .i64 (argsE f p 0 false [x, y])) := @RCheck_does Gv f p [x, y] (by simp) ho
    have hN := @None_does Gv 0 0 false [] (by simp [Sh])
    by_cases he : argsE f p 0 false [x, y] = 0
    · obtain ⟨h1, h2, h3, h4, h5, h6⟩ := argsE_zero he
      have hrt := held_rt h6 ho h1
      have hhx : (holdsP f p x.flt).2 = true := by simpa using List.all_eq_true.1 h6 x (by simp)
      have hhy : (holdsP f p y.flt).2 = true := by simpa using List.all_eq_true.1 h6 y (by simp)
      have hP := @PParts_does f p x y ox oy he _ _ _ _ (held_rcanon hhx).1.symm (held_rcanon hhy).1.symm rfl rfl
      have hQ := @RParts_does f p x y h5 (held_rs h5 hhx (hrt x (by simp))) (held_rs h5 hhy (hrt y (by simp))) _ _ rfl rfl
      have hok := timesP_ok (x := rcanon x.flt) (y := rcanon y.flt) (by have := held_rs h5 hhx (hrt x (by simp)); exact ⟨this.lo, this.hi, this.bl⟩) (by have := held_rs h5 hhy (hrt y (by simp)); exact ⟨this.lo, this.hi, this.bl⟩)
      have hkt := timesP_k (rcanon x.flt) (rcanon y.flt)
      rw [he] at hC
      generalize timesP (rcanon x.flt) (rcanon y.flt) = t at *
      obtain ⟨hfx, hfn⟩ := @roundT_fine f p 0 h5 t hkt
      have hlow := @roundT_low f p 0 h5 t
      generalize (roundT t f p 0).1 = s at *
      have hI1 := @LIs_same18 Gv s hfn.can (by have := hfn.v; omega) hfx
      obtain ⟨g1, g2⟩ : 1 ≤ gOfE f ∧ gOfE f ≤ 16383 := by
        obtain ⟨b1, b2, b3, b4⟩ := fmOk_spec h5
        exact gOfE_le b1 b2
      obtain ⟨t0, t1⟩ := tiny_le h5
      have hz0 : (Z0 : Int) = -1048576 := rfl
      have hbl := @left_bl t s (fun h => ⟨by omega, by omega⟩) (fun h => by have := hlow h; omega)
      obtain ⟨r1, r2, r3, r4⟩ := restP_canon hbl
      have hI2 := @LIs_same18 Gv _ r1 (by omega) (restP_fix _ _)
      generalize restP Z0 (leftT t s) = u at *
      by_cases hk : (s.k = 0 ∨ s.k = 1) ∧ inP f p u = true
      · have hP := hP.1 hk.1 hk.2
        have hQ := hQ.1 hk.1 hk.2
        refine Does.of (nt := 93) Tryz.func7 rfl rfl rfl (by simp) ?_
        simp only [argTm, PV.ext, Ce.ext]
        refine Do.seqk fun _ k1_ => ?_
        refine Do.region [3,4,5] true ?_
        simp [go_sem]
        apply k1_; clear k1_
        refine Do.seqk fun _ k2_ => ?_
        refine Do.seqk fun _ k3_ => ?_
        refine Do.region [3,4,5,18] true ?_
        simp [go_sem]
        repeat (refine And.intro (by first | omega | (intros; omega) | (intros; exact And.intro (by assumption) (by omega)) | grind) ?_)
        refine DoL.sealS true 103 102 rfl ?_
        simp [go_sem]
        refine DoL.call true 104 rfl rfl rfl rfl (by first | exact trivial | omega | (simp; done) | (simp; omega)) (hS) rfl (by first | exact .inl rfl | exact .inr rfl) rfl ?_
        simp [go_sem]
        repeat (refine And.intro (by first | omega | (intros; omega) | (intros; exact And.intro (by assumption) (by omega)) | grind) ?_)
        apply k3_; clear k3_
        refine Do.cond [3,4,5] rfl (fun h => ?_) (fun h => ?_) <;> simp [go_sem] at h ⊢
        refine Do.skip ?_
        simp [go_sem]
        apply k2_; clear k2_
        refine Do.seqk fun _ k4_ => ?_
        refine Do.region [3,4,5,7,8,9] true ?_
        simp [go_sem]
        repeat (refine And.intro (by first | omega | (intros; omega) | (intros; exact And.intro (by assumption) (by omega)) | grind) ?_)
        refine DoL.call true 304 rfl rfl rfl rfl (by first | exact trivial | omega | (simp; done) | (simp; omega)) (hP) rfl (by first | exact .inl rfl | exact .inr rfl) rfl ?_
        simp [go_sem]
        repeat (refine And.intro (by first | omega | (intros; omega) | (intros; exact And.intro (by assumption) (by omega)) | grind) ?_)
        apply k4_; clear k4_
        refine Do.seqk fun _ k5_ => ?_
        refine Do.draw [3,4,5,7,8,9,10] true (by kernel_rfl) ?_
        simp [go_sem]
        repeat (refine And.intro (by first | omega | (intros; omega) | (intros; exact And.intro (by assumption) (by omega)) | kernel_rfl | grind) ?_)
        refine DoLD.call true 402 rfl rfl rfl rfl (by first | exact trivial | omega | (simp; done) | (simp; omega)) (Fmt_does) rfl (by first | exact .inl rfl | exact .inr rfl) rfl ?_
        simp [go_sem]
        repeat (refine And.intro (by first | omega | (intros; omega) | (intros; exact And.intro (by assumption) (by omega)) | kernel_rfl | grind) ?_)
        refine DoLD.call true 404 rfl rfl rfl rfl (by first | exact trivial | omega | (simp; done) | (simp; omega)) (Their_does) rfl (by first | exact .inl rfl | exact .inr rfl) rfl ?_
        simp [go_sem]
        repeat (refine And.intro (by first | omega | (intros; omega) | (intros; exact And.intro (by assumption) (by omega)) | kernel_rfl | grind) ?_)
        refine DoLD.call true 406 rfl rfl rfl rfl (by first | exact trivial | omega | (simp; done) | (simp; omega)) (Their_does) rfl (by first | exact .inl rfl | exact .inr rfl) rfl ?_
        simp [go_sem]
        refine DoLD.call true 408 rfl rfl rfl rfl (by first | exact trivial | omega | (simp; done) | (simp; omega)) (hC) rfl (by first | exact .inl rfl | exact .inr rfl) rfl ?_
        simp [go_sem]
        try (refine And.intro (by kernel_rfl) ?_)
        apply k5_; clear k5_
        refine Do.seqk fun _ k6_ => ?_
        refine Do.seqk fun _ k7_ => ?_
        refine Do.region [3,4,5,7,8,9,10,37] true ?_
        simp [go_sem]
        apply k7_; clear k7_
        refine Do.cond [3,4,5,7,8,9,10] rfl (fun h => ?_) (fun h => ?_) <;> simp [go_sem] at h ⊢
        refine Do.skip ?_
        simp [go_sem]
        apply k6_; clear k6_
        refine Do.seqk fun _ k8_ => ?_
        refine Do.draw [7,8,9,11,12,13] true (by kernel_rfl) ?_
        simp [go_sem]
        repeat (refine And.intro (by first | omega | (intros; omega) | (intros; exact And.intro (by assumption) (by omega)) | kernel_rfl | grind) ?_)
        refine DoLD.call true 702 rfl rfl rfl rfl (by first | exact trivial | omega | (simp; done) | (simp; omega)) (Fmt_does) rfl (by first | exact .inl rfl | exact .inr rfl) rfl ?_
        simp [go_sem]
        repeat (refine And.intro (by first | omega | (intros; omega) | (intros; exact And.intro (by assumption) (by omega)) | kernel_rfl | grind) ?_)
        refine DoLD.call true 704 rfl rfl rfl rfl (by first | exact trivial | omega | (simp; done) | (simp; omega)) (Their_does) rfl (by first | exact .inl rfl | exact .inr rfl) rfl ?_
        simp [go_sem]
        repeat (refine And.intro (by first | omega | (intros; omega) | (intros; exact And.intro (by assumption) (by omega)) | kernel_rfl | grind) ?_)
        refine DoLD.call true 706 rfl rfl rfl rfl (by first | exact trivial | omega | (simp; done) | (simp; omega)) (Their_does) rfl (by first | exact .inl rfl | exact .inr rfl) rfl ?_
        simp [go_sem]
        refine DoLD.call true 707 rfl rfl rfl rfl (by first | exact trivial | omega | (simp; done) | (simp; omega)) (hQ) rfl (by first | exact .inl rfl | exact .inr rfl) rfl ?_
        simp [go_sem]
        repeat (refine And.intro (by first | omega | (intros; omega) | (intros; exact And.intro (by assumption) (by omega)) | kernel_rfl | grind) ?_)
        try (refine And.intro (by kernel_rfl) ?_)
        apply k8_; clear k8_
        refine Do.seqk fun _ k9_ => ?_
        refine Do.seqk fun _ k10_ => ?_
        refine Do.region [7,8,9,11,12,64] true ?_
        simp [go_sem]
        repeat (refine And.intro (by first | omega | (intros; omega) | (intros; exact And.intro (by assumption) (by omega)) | grind) ?_)
        apply k10_; clear k10_
        refine Do.cond [7,8,9,11,12] rfl (fun h => ?_) (fun h => ?_) <;> simp [go_sem] at h ⊢
        refine Do.skip ?_
        simp [go_sem]
        apply k9_; clear k9_
        refine Do.seqk fun _ k11_ => ?_
        refine Do.region [6] true ?_
        simp [go_sem]
        repeat (refine And.intro (by first | omega | (intros; omega) | (intros; exact And.intro (by assumption) (by omega)) | grind) ?_)
        refine DoL.callg true 1006 rfl rfl rfl rfl rfl (by simp [go_sem] <;> omega) (fun _ => hI1) rfl (by first | exact .inl rfl | exact .inr rfl) rfl ?_
        simp [go_sem]
        repeat (refine And.intro (by first | omega | (intros; omega) | (intros; exact And.intro (by assumption) (by omega)) | grind) ?_)
        refine DoL.callg true 1011 rfl rfl rfl rfl rfl (by simp [go_sem] <;> omega) (fun _ => hI2) rfl (by first | exact .inl rfl | exact .inr rfl) rfl ?_
        simp [go_sem]
        refine DoL.callg true 1014 rfl rfl rfl rfl rfl (by simp [go_sem] <;> omega) (fun _ => awake18_does) rfl (by first | exact .inl rfl | exact .inr rfl) rfl ?_
        simp [go_sem]
        apply k11_; clear k11_
        refine Do.ret ?_
        simp [endQ, rets, ret1, go_sem]
        repeat (refine And.intro (by first | omega | (intros; omega) | (intros; exact And.intro (by assumption) (by omega)) | grind) ?_)
        exact TLe.refl _
      · have hP : Does Tryz.prog Gv 26 [Fm f p, Fl x.k x.n x.e x.m, Fl y.k y.n y.e y.m] (.t [Fl 0 false 0 (nat 0), Fl 0 false 0 (nat 0), .c (.i .i64 4)]) := hP.2 hk
        have hQ := hQ.2 hk
        rw [nat_zero] at hP
        refine Does.of (nt := 93) Tryz.func7 rfl rfl rfl (by simp) ?_
        simp only [argTm, PV.ext, Ce.ext]
        refine Do.seqk fun _ k1_ => ?_
        refine Do.region [3,4,5] true ?_
        simp [go_sem]
        apply k1_; clear k1_
        refine Do.seqk fun _ k2_ => ?_
        refine Do.seqk fun _ k3_ => ?_
        refine Do.region [3,4,5,18] true ?_
        simp [go_sem]
        repeat (refine And.intro (by first | omega | (intros; omega) | (intros; exact And.intro (by assumption) (by omega)) | grind) ?_)
        refine DoL.sealS true 103 102 rfl ?_
        simp [go_sem]
        refine DoL.call true 104 rfl rfl rfl rfl (by first | exact trivial | omega | (simp; done) | (simp; omega)) (hS) rfl (by first | exact .inl rfl | exact .inr rfl) rfl ?_
        simp [go_sem]
        repeat (refine And.intro (by first | omega | (intros; omega) | (intros; exact And.intro (by assumption) (by omega)) | grind) ?_)
        apply k3_; clear k3_
        refine Do.cond [3,4,5] rfl (fun h => ?_) (fun h => ?_) <;> simp [go_sem] at h ⊢
        refine Do.skip ?_
        simp [go_sem]
        apply k2_; clear k2_
        refine Do.seqk fun _ k4_ => ?_
        refine Do.region [3,4,5,7,8,9] true ?_
        simp [go_sem]
        repeat (refine And.intro (by first | omega | (intros; omega) | (intros; exact And.intro (by assumption) (by omega)) | grind) ?_)
        refine DoL.call true 304 rfl rfl rfl rfl (by first | exact trivial | omega | (simp; done) | (simp; omega)) (hP) rfl (by first | exact .inl rfl | exact .inr rfl) rfl ?_
        simp [go_sem]
        repeat (refine And.intro (by first | omega | (intros; omega) | (intros; exact And.intro (by assumption) (by omega)) | grind) ?_)
        apply k4_; clear k4_
        refine Do.seqk fun _ k5_ => ?_
        refine Do.draw [3,4,5,7,8,9,10] true (by kernel_rfl) ?_
        simp [go_sem]
        repeat (refine And.intro (by first | omega | (intros; omega) | (intros; exact And.intro (by assumption) (by omega)) | kernel_rfl | grind) ?_)
        refine DoLD.call true 402 rfl rfl rfl rfl (by first | exact trivial | omega | (simp; done) | (simp; omega)) (Fmt_does) rfl (by first | exact .inl rfl | exact .inr rfl) rfl ?_
        simp [go_sem]
        repeat (refine And.intro (by first | omega | (intros; omega) | (intros; exact And.intro (by assumption) (by omega)) | kernel_rfl | grind) ?_)
        refine DoLD.call true 404 rfl rfl rfl rfl (by first | exact trivial | omega | (simp; done) | (simp; omega)) (Their_does) rfl (by first | exact .inl rfl | exact .inr rfl) rfl ?_
        simp [go_sem]
        repeat (refine And.intro (by first | omega | (intros; omega) | (intros; exact And.intro (by assumption) (by omega)) | kernel_rfl | grind) ?_)
        refine DoLD.call true 406 rfl rfl rfl rfl (by first | exact trivial | omega | (simp; done) | (simp; omega)) (Their_does) rfl (by first | exact .inl rfl | exact .inr rfl) rfl ?_
        simp [go_sem]
        refine DoLD.call true 408 rfl rfl rfl rfl (by first | exact trivial | omega | (simp; done) | (simp; omega)) (hC) rfl (by first | exact .inl rfl | exact .inr rfl) rfl ?_
        simp [go_sem]
        try (refine And.intro (by kernel_rfl) ?_)
        apply k5_; clear k5_
        refine Do.seqk fun _ k6_ => ?_
        refine Do.seqk fun _ k7_ => ?_
        refine Do.region [3,4,5,7,8,9,10,37] true ?_
        simp [go_sem]
        apply k7_; clear k7_
        refine Do.cond [3,4,5,7,8,9,10] rfl (fun h => ?_) (fun h => ?_) <;> simp [go_sem] at h ⊢
        refine Do.skip ?_
        simp [go_sem]
        apply k6_; clear k6_
        refine Do.seqk fun _ k8_ => ?_
        refine Do.draw [7,8,9,11,12,13] true (by kernel_rfl) ?_
        simp [go_sem]
        repeat (refine And.intro (by first | omega | (intros; omega) | (intros; exact And.intro (by assumption) (by omega)) | kernel_rfl | grind) ?_)
        refine DoLD.call true 702 rfl rfl rfl rfl (by first | exact trivial | omega | (simp; done) | (simp; omega)) (Fmt_does) rfl (by first | exact .inl rfl | exact .inr rfl) rfl ?_
        simp [go_sem]
        repeat (refine And.intro (by first | omega | (intros; omega) | (intros; exact And.intro (by assumption) (by omega)) | kernel_rfl | grind) ?_)
        refine DoLD.call true 704 rfl rfl rfl rfl (by first | exact trivial | omega | (simp; done) | (simp; omega)) (Their_does) rfl (by first | exact .inl rfl | exact .inr rfl) rfl ?_
        simp [go_sem]
        repeat (refine And.intro (by first | omega | (intros; omega) | (intros; exact And.intro (by assumption) (by omega)) | kernel_rfl | grind) ?_)
        refine DoLD.call true 706 rfl rfl rfl rfl (by first | exact trivial | omega | (simp; done) | (simp; omega)) (Their_does) rfl (by first | exact .inl rfl | exact .inr rfl) rfl ?_
        simp [go_sem]
        refine DoLD.call true 707 rfl rfl rfl rfl (by first | exact trivial | omega | (simp; done) | (simp; omega)) (hQ) rfl (by first | exact .inl rfl | exact .inr rfl) rfl ?_
        simp [go_sem]
        repeat (refine And.intro (by first | omega | (intros; omega) | (intros; exact And.intro (by assumption) (by omega)) | kernel_rfl | grind) ?_)
        try (refine And.intro (by kernel_rfl) ?_)
        apply k8_; clear k8_
        refine Do.seqk fun _ k9_ => ?_
        refine Do.seqk fun _ k10_ => ?_
        refine Do.region [7,8,9,11,12,64] true ?_
        simp [go_sem]
        repeat (refine And.intro (by first | omega | (intros; omega) | (intros; exact And.intro (by assumption) (by omega)) | grind) ?_)
        apply k10_; clear k10_
        refine Do.cond [7,8,9,11,12] rfl (fun h => ?_) (fun h => ?_) <;> simp [go_sem] at h ⊢
        refine Do.seqk fun _ k11_ => ?_
        refine Do.region [6] true ?_
        simp [go_sem]
        repeat (refine And.intro (by first | omega | (intros; omega) | (intros; exact And.intro (by assumption) (by omega)) | grind) ?_)
        refine DoL.callg true 905 rfl rfl rfl rfl rfl (by simp [go_sem] <;> omega) (fun _ => hN) rfl (by first | exact .inl rfl | exact .inr rfl) rfl ?_
        simp [go_sem]
        repeat (refine And.intro (by first | omega | (intros; omega) | (intros; exact And.intro (by assumption) (by omega)) | grind) ?_)
        refine DoL.callg true 909 rfl rfl rfl rfl rfl (by simp [go_sem] <;> omega) (fun _ => hN) rfl (by first | exact .inl rfl | exact .inr rfl) rfl ?_
        simp [go_sem]
        refine DoL.callg true 912 rfl rfl rfl rfl rfl (by simp [go_sem] <;> omega) (fun _ => awake18_does) rfl (by first | exact .inl rfl | exact .inr rfl) rfl ?_
        simp [go_sem]
        apply k11_; clear k11_
        refine Do.ret ?_
        simp [endQ, rets, ret1, go_sem]
        repeat (refine And.intro (by first | omega | (intros; omega) | (intros; exact And.intro (by assumption) (by omega)) | grind) ?_)
        exact TLe.refl _
    · have hP : Does Tryz.prog Gv 26 [Fm f p, Fl x.k x.n x.e x.m, Fl y.k y.n y.e y.m] (.t [Fl 0 false 0 (nat 0), Fl 0 false 0 (nat 0), .c (.i .i64 (argsE f p 0 false [x, y]))]) := Parts_err ox oy he
      rw [nat_zero] at hP
      generalize argsE f p 0 false [x, y] = ae at *
      refine Does.of (nt := 93) Tryz.func7 rfl rfl rfl (by simp) ?_
      simp only [argTm, PV.ext, Ce.ext]
      refine Do.seqk fun _ k1_ => ?_
      refine Do.region [3,4,5] true ?_
      simp [go_sem]
      apply k1_; clear k1_
      refine Do.seqk fun _ k2_ => ?_
      refine Do.seqk fun _ k3_ => ?_
      refine Do.region [3,4,5,18] true ?_
      simp [go_sem]
      repeat (refine And.intro (by first | omega | (intros; omega) | (intros; exact And.intro (by assumption) (by omega)) | grind) ?_)
      refine DoL.sealS true 103 102 rfl ?_
      simp [go_sem]
      refine DoL.call true 104 rfl rfl rfl rfl (by first | exact trivial | omega | (simp; done) | (simp; omega)) (hS) rfl (by first | exact .inl rfl | exact .inr rfl) rfl ?_
      simp [go_sem]
      repeat (refine And.intro (by first | omega | (intros; omega) | (intros; exact And.intro (by assumption) (by omega)) | grind) ?_)
      apply k3_; clear k3_
      refine Do.cond [3,4,5] rfl (fun h => ?_) (fun h => ?_) <;> simp [go_sem] at h ⊢
      refine Do.skip ?_
      simp [go_sem]
      apply k2_; clear k2_
      refine Do.seqk fun _ k4_ => ?_
      refine Do.region [3,4,5,7,8,9] true ?_
      simp [go_sem]
      repeat (refine And.intro (by first | omega | (intros; omega) | (intros; exact And.intro (by assumption) (by omega)) | grind) ?_)
      refine DoL.call true 304 rfl rfl rfl rfl (by first | exact trivial | omega | (simp; done) | (simp; omega)) (hP) rfl (by first | exact .inl rfl | exact .inr rfl) rfl ?_
      simp [go_sem]
      repeat (refine And.intro (by first | omega | (intros; omega) | (intros; exact And.intro (by assumption) (by omega)) | grind) ?_)
      apply k4_; clear k4_
      refine Do.seqk fun _ k5_ => ?_
      refine Do.draw [3,4,5,7,8,9,10] true (by kernel_rfl) ?_
      simp [go_sem]
      repeat (refine And.intro (by first | omega | (intros; omega) | (intros; exact And.intro (by assumption) (by omega)) | kernel_rfl | grind) ?_)
      refine DoLD.call true 402 rfl rfl rfl rfl (by first | exact trivial | omega | (simp; done) | (simp; omega)) (Fmt_does) rfl (by first | exact .inl rfl | exact .inr rfl) rfl ?_
      simp [go_sem]
      repeat (refine And.intro (by first | omega | (intros; omega) | (intros; exact And.intro (by assumption) (by omega)) | kernel_rfl | grind) ?_)
      refine DoLD.call true 404 rfl rfl rfl rfl (by first | exact trivial | omega | (simp; done) | (simp; omega)) (Their_does) rfl (by first | exact .inl rfl | exact .inr rfl) rfl ?_
      simp [go_sem]
      repeat (refine And.intro (by first | omega | (intros; omega) | (intros; exact And.intro (by assumption) (by omega)) | kernel_rfl | grind) ?_)
      refine DoLD.call true 406 rfl rfl rfl rfl (by first | exact trivial | omega | (simp; done) | (simp; omega)) (Their_does) rfl (by first | exact .inl rfl | exact .inr rfl) rfl ?_
      simp [go_sem]
      refine DoLD.call true 408 rfl rfl rfl rfl (by first | exact trivial | omega | (simp; done) | (simp; omega)) (hC) rfl (by first | exact .inl rfl | exact .inr rfl) rfl ?_
      simp [go_sem]
      try (refine And.intro (by kernel_rfl) ?_)
      apply k5_; clear k5_
      refine Do.seqk fun _ k6_ => ?_
      refine Do.seqk fun _ k7_ => ?_
      refine Do.region [3,4,5,7,8,9,10,37] true ?_
      simp [go_sem]
      apply k7_; clear k7_
      refine Do.cond [3,4,5,7,8,9,10] rfl (fun h5 => ?_) (fun h5 => ?_) <;> simp [go_sem] at h5 ⊢
      · refine Do.seqk fun _ k8_ => ?_
        refine Do.region [6] true ?_
        simp [go_sem]
        repeat (refine And.intro (by first | omega | (intros; omega) | (intros; exact And.intro (by assumption) (by omega)) | grind) ?_)
        refine DoL.callg true 606 rfl rfl rfl rfl rfl (by simp [go_sem] <;> omega) (fun _ => hN) rfl (by first | exact .inl rfl | exact .inr rfl) rfl ?_
        simp [go_sem]
        repeat (refine And.intro (by first | omega | (intros; omega) | (intros; exact And.intro (by assumption) (by omega)) | grind) ?_)
        refine DoL.callg true 610 rfl rfl rfl rfl rfl (by simp [go_sem] <;> omega) (fun _ => hN) rfl (by first | exact .inl rfl | exact .inr rfl) rfl ?_
        simp [go_sem]
        refine DoL.callg true 613 rfl rfl rfl rfl rfl (by simp [go_sem] <;> omega) (fun _ => awake18_does) rfl (by first | exact .inl rfl | exact .inr rfl) rfl ?_
        simp [go_sem]
        apply k8_; clear k8_
        refine Do.ret ?_
        simp [endQ, rets, ret1, go_sem]
        repeat (refine And.intro (by first | omega | (intros; omega) | (intros; exact And.intro (by assumption) (by omega)) | grind) ?_)
        exact TLe.refl _
      · exact absurd h5 he
end Go.Proofs.YthpkhmbjmnhmoaaGreatDoor
/- The row of ProductParts. No condition. -/
namespace Go.Proofs.YthpkhmbjmnhmoaaGreatDoor
set_option linter.unusedVariables false
set_option linter.unusedSimpArgs false
open Go.ChangeShapes Go.WideShapes Go.ChangeAt Go.RowKit
set_option maxRecDepth 100000
namespace productParts
set_option maxRecDepth 100000 in
theorem lifted (os : Os) (started : os.Started) (H : Type) (enc : TypeId × Value → H) :
    ReturnsInHanded {} Tryz.checked os 7 .any (fun w args => (Rows.productPartsSpec.pre enc Tryz.prog Tryz.f7 [] false w args ∧ laidMetH Tryz.prog laidL w) ∧ sizedMet enc Tryz.prog Tryz.f7 (OpenSpec.ofChange Rows.productPartsSpec) false w args)
      (Rows.productPartsSpec.post enc Tryz.prog Tryz.f7 false true false false) := by
  refine returnsInHanded_of_change_and (C := Tryz.checked) (X := fun w _ => laidMetH Tryz.prog laidL w) (fun _ _ _ hh h => h.of_heap hh) own started (by kernel_rfl) Tryz.func7
    (ChangeSpec.witness_shaped (enc := enc) (C := Tryz.checked) (os := os) (X := fun w _ => laidMetH Tryz.prog laidL w) false (World.doorLaid Tryz.prog doorN os) #[.agg #[.int .i64 0, .int .i64 0], .agg #[.int .i64 0, .bool false, .int .i64 0, .slice Option.none 0 0], .agg #[.int .i64 0, .bool false, .int .i64 0, .slice Option.none 0 0]] doorK rfl (World.shaped_of_RefB (by kernel_rfl) (by kernel_rfl)) (by kernel_rfl) (by kernel_rfl) (by kernel_rfl) (door_met os _)) ?_
  intro W base args ds gs before hval0 hW _ _ hL _
  have hval : ∀ (j : Nat) t v, Tryz.f7.params[j]? = some t → args[j]? = some v → Value.okWide Tryz.prog W .any base t v := hval0
  have hW' := hW
  obtain ⟨p, q, hA0, hV, rfl, hfz, hnd⟩ := hW
  have hA : DataW.TrodAll enc Tryz.prog W 0 (fun _ => true) true Tryz.f7.params.toList args.toList ds p := hA0
  rw [Tryz.params7] at hA hval
  obtain ⟨v0, vs0, d0, ds0, p0, q0, hargs, rfl, rfl, h0, r0⟩ := trodAll_cons hA
  obtain ⟨v1, vs1, d1, ds1, p1, q1, rfl, rfl, rfl, h1, r1⟩ := trodAll_cons r0
  obtain ⟨v2, vs2, d2, ds2, p2, q2, rfl, rfl, rfl, h2, r2⟩ := trodAll_cons r1
  obtain ⟨rfl, rfl, rfl⟩ := trodAll_nil r2
  obtain rfl : args = #[v0, v1, v2] := by cases args; simp_all
  obtain ⟨rfl, rfl⟩ := trodVars_none hV
  have lt0 : ∀ x ∈ p0, x.block < W.heap.size := by obtain ⟨m, hm⟩ := h0; exact DataW.trod_lt m _ _ _ hm
  have lt1 : ∀ x ∈ p1, x.block < W.heap.size := by obtain ⟨m, hm⟩ := h1; exact DataW.trod_lt m _ _ _ hm
  have lt2 : ∀ x ∈ p2, x.block < W.heap.size := by obtain ⟨m, hm⟩ := h2; exact DataW.trod_lt m _ _ _ hm
  obtain ⟨f, fp, a0⟩ := arg_fm (hval 0 _ v0 rfl rfl) h0
  obtain ⟨x, wx, ex, a1⟩ := arg_fl (hval 1 _ v1 rfl rfl) h1
  obtain ⟨y, wy, ey, a2⟩ := arg_fl (hval 2 _ v2 rfl rfl) h2
  clear hA0 hval0
  refine (law_calls (vals := [v0, v1, v2]) (ProductParts_does (f := f) (p := fp) wx ex wy ey) Tryz.func7 rfl rfl (of_laid hL) (.cons a0 (.cons a1 (.cons a2 .nil)))).mono fun e W' ⟨he, bel⟩ => ?_
  subst he
  exact ⟨_, rfl, _, _, _, [], _, [], hW', trodAll_mk1 (shut_bool Tryz.underlying4 _), (trodAll_cons_mk (Below.trod laidOut (by kernel_rfl) (of_decide_eq_true (by kernel_rfl)) h0 bel lt0) (trodAll_cons_mk (Below.trod laidOut (by kernel_rfl) (of_decide_eq_true (by kernel_rfl)) h1 bel lt1) (trodAll_mk1 (Below.trod laidOut (by kernel_rfl) (of_decide_eq_true (by kernel_rfl)) h2 bel lt2)))), rfl, bel.frame _, fun h => by cases h⟩
theorem over : Rows.productPartsRow.holds Tryz.pinned (OpenSpec.ofChange Rows.productPartsSpec) :=
  OpenClaim.holds_of_wide 7 Tryz.f7 rfl rfl rfl rfl rfl rfl rfl ⟨rfl, rfl, rfl, rfl, rfl⟩ rfl rfl rfl rfl rfl (by kernel_rfl) Tryz.func7 (by kernel_rfl)
    (of_decide_eq_true (by kernel_rfl)) (by unfold Func.isWrapper; first | (rw [if_pos (by decide +kernel)]; kernel_rfl) | (rw [if_neg (by decide +kernel)]; exact ⟨rfl, rfl⟩))
    (fun os started H enc _ => lifted os started H enc)
end productParts
end Go.Proofs.YthpkhmbjmnhmoaaGreatDoor
/- The law ProductParts holds, for every input: the rounded product of two floats of up to 40 words and what it drops are the document's, or the error is. Conditions: the two listed package variables hold what the program's text lays (tied by the card). -/
namespace Go.Proofs.YthpkhmbjmnhmoaaGreatDoor
set_option linter.unusedVariables false
set_option linter.unusedSimpArgs false
open Go
theorem productParts_holds : Rows.ProductPartsCardSaid :=
  Claim7.holds_tied_plain_at .later [] [.data, .funcs] true Rows.productPartsCard.stood.harness false
    productParts.over (fun _ h => by cases h) (by kernel_rfl) (fun _ h => by cases h) productParts_row_tie rfl ⟨rfl, rfl⟩ (by kernel_rfl) rfl
    (fun f fn hf hfn => by
      obtain rfl : f = 7 := Option.some.inj ((show Tryz.prog.funcNamed "reckoner/reckonerlaw18.ProductParts" = some 7 by kernel_rfl).symm.trans hf) |>.symm
      obtain rfl : fn = Tryz.f7 := (Option.some.inj (Tryz.func7.symm.trans hfn)).symm
      exact ⟨by kernel_rfl, fun j t ht => by
        have hm : t ∈ Tryz.f7.params.toList := by simpa using Array.mem_of_getElem? ht
        have hall : (Tryz.f7.params.toList.all fun u => !Tryz.prog.wantsStandIn u) = true := by kernel_rfl
        exact (show Tryz.prog.wantsStandIn t = false by simpa using List.all_eq_true.1 hall t hm)⟩)
    (by kernel_rfl)
#print axioms productParts_holds
end Go.Proofs.YthpkhmbjmnhmoaaGreatDoor
