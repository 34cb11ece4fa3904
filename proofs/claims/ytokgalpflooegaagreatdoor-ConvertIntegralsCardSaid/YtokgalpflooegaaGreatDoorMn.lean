/- The law ConvertFormats. No condition. The law ConvertLarge. No condition. A rational number of the reference, rounded to an integer. No condition. The law ConvertIntegrals. No condition. The row of ConvertIntegrals. No condition. -/
import Derived.Test.YtokgalpflooegaaGreatDoorMm
import Derived.Test.YtokgalpflooegaaGreatDoorMj
import Derived.Test.YtokgalpflooegaaGreatDoorMh
import Derived.Test.YtokgalpflooegaaGreatDoorMl
import Derived.Test.YtokgalpflooegaaGreatDoorMi
/- The law ConvertFormats. No condition. -/
namespace Go.Proofs.YtokgalpflooegaaGreatDoor
set_option linter.unusedVariables false
set_option linter.unusedSimpArgs false
set_option maxHeartbeats 4000000
set_option maxRecDepth 10000
theorem sgn_dec {n : Bool} {v : Nat} (h : v ≠ 0) : decide (sgn n v < 0) = n := by
  cases n
  · simp [sgn]
  · simp [sgn]; omega
theorem RConvert_does {G : Gl} {g q r : Int} (hg : fmOk g q = true) (hr : 0 ≤ r) (hr' : r ≤ 4) {x : Fla} (hx : Rt x) : Does Tryz.prog G 17 [Fm g q, .c (.i .i64 r), Fl x.k x.n x.e x.m] (.t [(convA g q r (rcanon x.flt)).1.pw, .c (.i .i64 (convA g q r (rcanon x.flt)).2)]) := by
  have hlen := hx.len
  have hN := @Canonical_new G x.k x.e x.n x.m (by omega) hx.ws hx.md
  have hC := @Canonical_does G x.k x.e x.n x.m (by omega) hx.ws hx.md
  have hk1 := rcanon_k x.flt
  by_cases hk : x.k = 1
  · have hc := canon_one hx.can hk
    have hv : 0 < val x.m := by have : x.flt.v ≠ 0 := hc.2.2; exact Nat.pos_of_ne_zero this
    have hbv := bl_le_len hx.ws (Nat.div_le_self (val x.m) (2 ^ tz (val x.m)))
    have e1 : rcanon ⟨x.k, x.n, x.e, val x.m⟩ = ⟨1, x.n, x.e + tz (val x.m), val x.m / 2 ^ tz (val x.m)⟩ := by simp [rcanon, hk]
    have e2 : rcanon x.flt = ⟨1, x.n, x.e + tz (val x.m), val x.m / 2 ^ tz (val x.m)⟩ := e1
    have hpos : 0 < val x.m / 2 ^ tz (val x.m) := by
      obtain ⟨m, hm⟩ := tz_form hv
      have : val x.m / 2 ^ tz (val x.m) = 2 * m + 1 := by
        conv => lhs; arg 1; rw [hm]
        exact Nat.mul_div_cancel_left _ (Nat.pow_pos (by decide))
      omega
    have hE : -1048576 ≤ x.e ∧ x.e + tz (val x.m) ≤ 1048576 := ⟨hc.1, hc.2.1⟩
    rw [e1] at hC
    rw [e2]
    clear e1 e2 hN hc
    generalize hV : val x.m / 2 ^ tz (val x.m) = V at *
    generalize hEe : x.e + tz (val x.m) = E at *
    have hR := @Round_new G g q r hg hr hr' x.n V E hpos (by omega) (by omega)
    have hl := nat_len_bl V
    have hM := @IMake11_does G x.n (nat V) (by omega) (nat_ws _)
    rw [val_nat] at hM
    have hS := @Scaled_does G (decide (sgn x.n V < 0)) (nat (sgn x.n V).natAbs) E (by rw [sgn_abs]; omega) (nat_ws _)
    rw [val_nat, sgn_of, sgn_abs, sgn_dec (by omega)] at hS
    have hS : Does Tryz.prog G 55 [Iv (sgn x.n V), .c (.i .i64 E)] (.v (Rl x.n V E)) := by
      show Does Tryz.prog G 55 [Ig (decide (sgn x.n V < 0)) (nat (sgn x.n V).natAbs), .c (.i .i64 E)] (.v (Rl x.n V E))
      rw [sgn_dec (by omega), sgn_abs]; exact hS
    have hz : convA g q r ⟨1, x.n, E, V⟩ = roundP g q r x.n V E false := by
      unfold convA Nu.round
      simp only []
      rw [if_pos trivial, if_neg (by omega)]
    rw [hz]
    generalize roundP g q r x.n V E false = z at *
    generalize sgn x.n V = sv at *
    have hC : Does Tryz.prog G 53 [Fl x.k x.n x.e x.m] (.v (Fl 1 x.n E (nat V))) := hC
    refine Does.of (nt := 28) Tryz.func17 rfl rfl rfl (by simp) ?_
    simp only [argTm, PV.ext, Ce.ext]
    refine Do.seqk fun _ k1_ => ?_
    refine Do.region [1,3,5,6] true ?_
    simp [go_sem]
    apply k1_; clear k1_
    refine Do.seqk fun _ k2_ => ?_
    refine Do.seqk fun _ k3_ => ?_
    refine Do.region [1,3,5,6,10] true ?_
    simp [go_sem]
    repeat (refine And.intro (by first | omega | (intros; omega) | (intros; exact And.intro (by assumption) (by omega)) | grind) ?_)
    apply k3_; clear k3_
    refine Do.cond [1,3,5,6] rfl (fun g1 => ?_) (fun g1 => ?_) <;> simp [go_sem] at g1 ⊢
    · exact absurd hk g1
    · refine Do.skip ?_
      simp [go_sem]
      apply k2_; clear k2_
      refine Do.seqk fun _ k4_ => ?_
      refine Do.region [1,3,5,6] true ?_
      simp [go_sem]
      repeat (refine And.intro (by first | omega | (intros; omega) | (intros; exact And.intro (by assumption) (by omega)) | grind) ?_)
      refine DoL.call true 302 rfl rfl rfl rfl (by first | exact trivial | omega | (simp; done) | (simp; omega)) (hC) rfl (by first | exact .inl rfl | exact .inr rfl) rfl ?_
      simp [go_sem]
      repeat (refine And.intro (by first | omega | (intros; omega) | (intros; exact And.intro (by assumption) (by omega)) | grind) ?_)
      apply k4_; clear k4_
      refine Do.seqk fun _ k5_ => ?_
      refine Do.draw [6,7] true (by kernel_rfl) ?_
      simp [go_sem]
      repeat (refine And.intro (by first | omega | (intros; omega) | (intros; exact And.intro (by assumption) (by omega)) | kernel_rfl | grind) ?_)
      refine DoLD.call true 407 rfl rfl rfl rfl (by first | exact trivial | omega | (simp; done) | (simp; omega)) (hM) rfl (by first | exact .inl rfl | exact .inr rfl) rfl ?_
      simp [go_sem]
      repeat (refine And.intro (by first | omega | (intros; omega) | (intros; exact And.intro (by assumption) (by omega)) | kernel_rfl | grind) ?_)
      refine DoLD.call true 410 rfl rfl rfl rfl (by first | exact trivial | omega | (simp; done) | (simp; omega)) (hS) rfl (by first | exact .inl rfl | exact .inr rfl) rfl ?_
      simp [go_sem]
      refine DoLD.call true 411 rfl rfl rfl rfl (by first | exact trivial | omega | (simp; done) | (simp; omega)) (hR) rfl (by first | exact .inl rfl | exact .inr rfl) rfl ?_
      simp [go_sem]
      repeat (refine And.intro (by first | omega | (intros; omega) | (intros; exact And.intro (by assumption) (by omega)) | kernel_rfl | grind) ?_)
      try (refine And.intro (by kernel_rfl) ?_)
      apply k5_; clear k5_
      refine Do.ret ?_
      simp [endQ, rets, ret1, go_sem]
      repeat (refine And.intro (by first | omega | (intros; omega) | (intros; exact And.intro (by assumption) (by omega)) | grind) ?_)
      exact TLe.refl _
  · have hz : convA g q r (rcanon x.flt) = (rcanon x.flt, 0) := by
      unfold convA
      rw [if_neg (by rw [hk1]; exact hk)]
    rw [hz]
    have hN : Does Tryz.prog G 53 [Fl x.k x.n x.e x.m] (.v (rcanon x.flt).pw) := hN
    generalize rcanon x.flt = z at *
    refine Does.of (nt := 28) Tryz.func17 rfl rfl rfl (by simp) ?_
    simp only [argTm, PV.ext, Ce.ext]
    refine Do.seqk fun _ k1_ => ?_
    refine Do.region [1,3,5,6] true ?_
    simp [go_sem]
    apply k1_; clear k1_
    refine Do.seqk fun _ k2_ => ?_
    refine Do.seqk fun _ k3_ => ?_
    refine Do.region [1,3,5,6,10] true ?_
    simp [go_sem]
    repeat (refine And.intro (by first | omega | (intros; omega) | (intros; exact And.intro (by assumption) (by omega)) | grind) ?_)
    apply k3_; clear k3_
    refine Do.cond [1,3,5,6] rfl (fun g1 => ?_) (fun g1 => ?_) <;> simp [go_sem] at g1 ⊢
    · refine Do.seqk fun _ k4_ => ?_
      refine Do.region [6,7] true ?_
      simp [go_sem]
      repeat (refine And.intro (by first | omega | (intros; omega) | (intros; exact And.intro (by assumption) (by omega)) | grind) ?_)
      refine DoL.call true 202 rfl rfl rfl rfl (by first | exact trivial | omega | (simp; done) | (simp; omega)) (hN) rfl (by first | exact .inl rfl | exact .inr rfl) rfl ?_
      simp [go_sem]
      repeat (refine And.intro (by first | omega | (intros; omega) | (intros; exact And.intro (by assumption) (by omega)) | grind) ?_)
      apply k4_; clear k4_
      refine Do.ret ?_
      simp [endQ, rets, ret1, go_sem]
      repeat (refine And.intro (by first | omega | (intros; omega) | (intros; exact And.intro (by assumption) (by omega)) | grind) ?_)
      exact TLe.refl _
    · exact absurd g1 hk
theorem convA_fine {f p g q r : Int} (hg : fmOk g q = true) {x : Flt} (hx : Fine x) (hf : rcanon x = x) : Fine (convA g q r x).1 ∧ rcanon (convA g q r x).1 = (convA g q r x).1 := by
  unfold convA
  split
  · unfold Nu.round
    split
    · exact ⟨fine_zero, rfl⟩
    · exact ⟨roundP_fine hg, roundP_fix hg⟩
  · exact ⟨hx, hf⟩
theorem held_fine20 {f p : Int} (hf : fmOk f p = true) {x : Flt} (h : (holdsP f p x).2 = true) : Fine (holdsP f p x).1 ∧ rcanon (holdsP f p x).1 = (holdsP f p x).1 := by
  have hc := held_canon h
  refine ⟨⟨by rw [hc], ?_⟩, by rw [← (held_rcanon h).1]; exact rcanon_idem _⟩
  by_cases hk : (holdsP f p x).1.k = 1
  · have := holdsP_bound hf h hk
    have h2 := held_fin20 h hk
    obtain ⟨b1, b2, b3, b4⟩ := fmOk_spec hf
    omega
  · have h3 := rcanon_idem x
    rw [(held_rcanon h).1] at h3
    unfold rcanon at h3
    rw [if_neg hk] at h3
    rw [← h3]; simp [bl_zero]
theorem ConvertFormats_does {f p g q r : Int} {x : Fla} (hx : Ws x.m) (ex : I64 x.e) : Does Tryz.prog Gv 3 [Fm f p, Fm g q, .c (.i .i64 r), Fl x.k x.n x.e x.m] (.v (.c (.b true))) := by
  have hS : Does Tryz.prog Gv 10 [.s false [x.cs]] (.v (.c (.b (shortP [x])))) := Short15_does (l := [x]) (by simp)
  cases hs : shortP [x] with
  | false =>
    rw [hs] at hS
    refine Does.of (nt := 75) Tryz.func3 rfl rfl rfl (by simp) ?_
    simp only [argTm, PV.ext, Ce.ext]
    refine Do.seqk fun _ k1_ => ?_
    refine Do.region [2,4,5,7] true ?_
    simp [go_sem]
    apply k1_; clear k1_
    refine Do.seqk fun _ k2_ => ?_
    refine Do.seqk fun _ k3_ => ?_
    refine Do.region [2,4,5,7,18] true ?_
    simp [go_sem]
    repeat (refine And.intro (by first | omega | (intros; omega) | (intros; exact And.intro (by assumption) (by omega)) | grind) ?_)
    refine DoL.sealS true 102 101 rfl ?_
    simp [go_sem]
    refine DoL.call true 103 rfl rfl rfl rfl (by first | exact trivial | omega | (simp; done) | (simp; omega)) (hS) rfl (by first | exact .inl rfl | exact .inr rfl) rfl ?_
    simp [go_sem]
    repeat (refine And.intro (by first | omega | (intros; omega) | (intros; exact And.intro (by assumption) (by omega)) | grind) ?_)
    apply k3_; clear k3_
    refine Do.cond [2,4,5,7] rfl (fun h => ?_) (fun h => ?_) <;> simp [go_sem] at h ⊢
    refine Do.seqk fun _ k4_ => ?_
    refine Do.region [8] true ?_
    simp [go_sem]
    refine DoL.call true 201 rfl rfl rfl rfl (by first | exact trivial | omega | (simp; done) | (simp; omega)) (awake20_does) rfl (by first | exact .inl rfl | exact .inr rfl) rfl ?_
    simp [go_sem]
    apply k4_; clear k4_
    refine Do.ret ?_
    simp [endQ, rets, ret1, go_sem]
    repeat (refine And.intro (by first | omega | (intros; omega) | (intros; exact And.intro (by assumption) (by omega)) | grind) ?_)
    exact TLe.refl _
  | true =>
    rw [hs] at hS
    have hsx : x.m.length ≤ 40 := by simpa [shortP] using hs
    have ox : x.Ok := ⟨by simp [Sh]; omega, hx, ex⟩
    have hA : Does Tryz.prog Gv 13 [Fm f p, .c (.i .i64 r), .s false [x.cs]] (.int .i64 (argsE f p r false [x])) := @KArgs_does Gv f p r [x] (by simp) (by simp [ox])
    have hT := Convert_does (f := f) (p := p) (g := g) (q := q) (r := r) ox
    have hRt := @RRightF_does Gv g q
    have hw := argsC_want f p g q r false x
    by_cases he : argsC f p g q r false x = 0
    · obtain ⟨h1, h2, h3, h4, h5, h6, h7⟩ := argsC_zero he
      have ha : argsE f p r false [x] = 0 := by
        rw [← argsC_same]; exact argsC_ok h1 h2 h3 h5 h5 h7
      rw [ha] at hA
      rw [convP, if_pos he] at hT
      have hrt := held_rt (f := f) (p := p) (l := [x]) (by simpa [allHold] using h7) (by simp [ox]) (by simpa using h1) x (by simp)
      have hC := @RConvert_does Gv g q r h6 h2 h3 x hrt
      rw [(held_rcanon h7).1] at hC
      obtain ⟨f1, f2⟩ := held_fine20 h5 h7
      obtain ⟨f3, f4⟩ := @convA_fine f p g q r h6 _ f1 f2
      generalize convA g q r (holdsP f p x.flt).1 = z at *
      rw [h6] at hRt
      have hF := @Fits_same Gv z.1 z.2 f3 f4
      have hT : Does Tryz.prog Gv 12 [Fm f p, Fm g q, .c (.i .i64 r), Fl x.k x.n x.e x.m] (.t [z.1.pv, .c (.i .i64 z.2), .c (.i .i64 0)]) := hT
      refine Does.of (nt := 75) Tryz.func3 rfl rfl rfl (by simp) ?_
      simp only [argTm, PV.ext, Ce.ext]
      refine Do.seqk fun _ k1_ => ?_
      refine Do.region [2,4,5,7] true ?_
      simp [go_sem]
      apply k1_; clear k1_
      refine Do.seqk fun _ k2_ => ?_
      refine Do.seqk fun _ k3_ => ?_
      refine Do.region [2,4,5,7,18] true ?_
      simp [go_sem]
      repeat (refine And.intro (by first | omega | (intros; omega) | (intros; exact And.intro (by assumption) (by omega)) | grind) ?_)
      refine DoL.sealS true 102 101 rfl ?_
      simp [go_sem]
      refine DoL.call true 103 rfl rfl rfl rfl (by first | exact trivial | omega | (simp; done) | (simp; omega)) (hS) rfl (by first | exact .inl rfl | exact .inr rfl) rfl ?_
      simp [go_sem]
      repeat (refine And.intro (by first | omega | (intros; omega) | (intros; exact And.intro (by assumption) (by omega)) | grind) ?_)
      apply k3_; clear k3_
      refine Do.cond [2,4,5,7] rfl (fun h => ?_) (fun h => ?_) <;> simp [go_sem] at h ⊢
      refine Do.skip ?_
      simp [go_sem]
      apply k2_; clear k2_
      refine Do.seqk fun _ k4_ => ?_
      refine Do.region [2,4,5,7,9,10,11] true ?_
      simp [go_sem]
      repeat (refine And.intro (by first | omega | (intros; omega) | (intros; exact And.intro (by assumption) (by omega)) | grind) ?_)
      refine DoL.call true 305 rfl rfl rfl rfl (by first | exact trivial | omega | (simp; done) | (simp; omega)) (hT) rfl (by first | exact .inl rfl | exact .inr rfl) rfl ?_
      simp [go_sem]
      repeat (refine And.intro (by first | omega | (intros; omega) | (intros; exact And.intro (by assumption) (by omega)) | grind) ?_)
      apply k4_; clear k4_
      refine Do.seqk fun _ k5_ => ?_
      refine Do.region [2,5,7,9,10,11,12] true ?_
      simp [go_sem]
      repeat (refine And.intro (by first | omega | (intros; omega) | (intros; exact And.intro (by assumption) (by omega)) | grind) ?_)
      refine DoL.sealS true 404 403 rfl ?_
      simp [go_sem]
      refine DoL.call true 405 rfl rfl rfl rfl (by first | exact trivial | omega | (simp; done) | (simp; omega)) (hA) rfl (by first | exact .inl rfl | exact .inr rfl) rfl ?_
      simp [go_sem]
      apply k5_; clear k5_
      refine Do.seqk fun _ k6_ => ?_
      refine Do.seqk fun _ k7_ => ?_
      refine Do.region [2,5,7,9,10,11,12,45] true ?_
      simp [go_sem]
      repeat (refine And.intro (by first | omega | (intros; omega) | (intros; exact And.intro (by assumption) (by omega)) | grind) ?_)
      refine DoL.callg true 509 rfl rfl rfl rfl rfl (by simp [go_sem] <;> omega) (fun _ => Fmt_does) rfl (by first | exact .inl rfl | exact .inr rfl) rfl ?_
      simp [go_sem]
      refine DoL.callg true 510 rfl rfl rfl rfl rfl (by simp [go_sem] <;> omega) (fun _ => hRt) rfl (by first | exact .inl rfl | exact .inr rfl) rfl ?_
      simp [go_sem]
      repeat (refine And.intro (by first | omega | (intros; omega) | (intros; exact And.intro (by assumption) (by omega)) | grind) ?_)
      apply k7_; clear k7_
      refine Do.cond [2,5,7,9,10,11,12] rfl (fun h => ?_) (fun h => ?_) <;> simp [go_sem] at h ⊢
      refine Do.skip ?_
      simp [go_sem]
      apply k6_; clear k6_
      refine Do.seqk fun _ k8_ => ?_
      refine Do.seqk fun _ k9_ => ?_
      refine Do.region [2,5,7,9,10,11,12,47] true ?_
      simp [go_sem]
      apply k9_; clear k9_
      refine Do.cond [2,5,7,9,10,11,12] rfl (fun h => ?_) (fun h => ?_) <;> simp [go_sem] at h ⊢
      refine Do.skip ?_
      simp [go_sem]
      apply k8_; clear k8_
      refine Do.seqk fun _ k10_ => ?_
      refine Do.draw [9,10,11,13,14] true (by kernel_rfl) ?_
      simp [go_sem]
      repeat (refine And.intro (by first | omega | (intros; omega) | (intros; exact And.intro (by assumption) (by omega)) | kernel_rfl | grind) ?_)
      refine DoLD.call true 902 rfl rfl rfl rfl (by first | exact trivial | omega | (simp; done) | (simp; omega)) (Fmt_does) rfl (by first | exact .inl rfl | exact .inr rfl) rfl ?_
      simp [go_sem]
      repeat (refine And.intro (by first | omega | (intros; omega) | (intros; exact And.intro (by assumption) (by omega)) | kernel_rfl | grind) ?_)
      refine DoLD.call true 905 rfl rfl rfl rfl (by first | exact trivial | omega | (simp; done) | (simp; omega)) (Their_does) rfl (by first | exact .inl rfl | exact .inr rfl) rfl ?_
      simp [go_sem]
      refine DoLD.call true 906 rfl rfl rfl rfl (by first | exact trivial | omega | (simp; done) | (simp; omega)) (hC) rfl (by first | exact .inl rfl | exact .inr rfl) rfl ?_
      simp [go_sem]
      repeat (refine And.intro (by first | omega | (intros; omega) | (intros; exact And.intro (by assumption) (by omega)) | kernel_rfl | grind) ?_)
      try (refine And.intro (by kernel_rfl) ?_)
      apply k10_; clear k10_
      refine Do.seqk fun _ k11_ => ?_
      refine Do.region [8] true ?_
      simp [go_sem]
      repeat (refine And.intro (by first | omega | (intros; omega) | (intros; exact And.intro (by assumption) (by omega)) | grind) ?_)
      refine DoL.call true 1006 rfl rfl rfl rfl (by first | exact trivial | omega | (simp; done) | (simp; omega)) (hF) rfl (by first | exact .inl rfl | exact .inr rfl) rfl ?_
      simp [go_sem]
      refine DoL.callg true 1008 rfl rfl rfl rfl rfl (by simp [go_sem] <;> omega) (fun _ => awake20_does) rfl (by first | exact .inl rfl | exact .inr rfl) rfl ?_
      simp [go_sem]
      apply k11_; clear k11_
      refine Do.ret ?_
      simp [endQ, rets, ret1, go_sem]
      repeat (refine And.intro (by first | omega | (intros; omega) | (intros; exact And.intro (by assumption) (by omega)) | grind) ?_)
      exact TLe.refl _
    · rw [convP, if_neg he] at hT
      have hF := @Fits_none 0 0 false [] 0 (argsC f p g q r false x) ⟨rfl, rfl, rfl, rfl⟩ he (argsC f p g q r false x)
      generalize argsC f p g q r false x = ae at *
      generalize argsE f p r false [x] = ac at *
      have hT : Does Tryz.prog Gv 12 [Fm f p, Fm g q, .c (.i .i64 r), Fl x.k x.n x.e x.m] (.t [Fl 0 false 0 (nat 0), .c (.i .i64 0), .c (.i .i64 ae)]) := hT
      rw [nat_zero] at hT
      generalize fmOk g q = fg at *
      refine Does.of (nt := 75) Tryz.func3 rfl rfl rfl (by simp) ?_
      simp only [argTm, PV.ext, Ce.ext]
      refine Do.seqk fun _ k1_ => ?_
      refine Do.region [2,4,5,7] true ?_
      simp [go_sem]
      apply k1_; clear k1_
      refine Do.seqk fun _ k2_ => ?_
      refine Do.seqk fun _ k3_ => ?_
      refine Do.region [2,4,5,7,18] true ?_
      simp [go_sem]
      repeat (refine And.intro (by first | omega | (intros; omega) | (intros; exact And.intro (by assumption) (by omega)) | grind) ?_)
      refine DoL.sealS true 102 101 rfl ?_
      simp [go_sem]
      refine DoL.call true 103 rfl rfl rfl rfl (by first | exact trivial | omega | (simp; done) | (simp; omega)) (hS) rfl (by first | exact .inl rfl | exact .inr rfl) rfl ?_
      simp [go_sem]
      repeat (refine And.intro (by first | omega | (intros; omega) | (intros; exact And.intro (by assumption) (by omega)) | grind) ?_)
      apply k3_; clear k3_
      refine Do.cond [2,4,5,7] rfl (fun h => ?_) (fun h => ?_) <;> simp [go_sem] at h ⊢
      refine Do.skip ?_
      simp [go_sem]
      apply k2_; clear k2_
      refine Do.seqk fun _ k4_ => ?_
      refine Do.region [2,4,5,7,9,10,11] true ?_
      simp [go_sem]
      repeat (refine And.intro (by first | omega | (intros; omega) | (intros; exact And.intro (by assumption) (by omega)) | grind) ?_)
      refine DoL.call true 305 rfl rfl rfl rfl (by first | exact trivial | omega | (simp; done) | (simp; omega)) (hT) rfl (by first | exact .inl rfl | exact .inr rfl) rfl ?_
      simp [go_sem]
      repeat (refine And.intro (by first | omega | (intros; omega) | (intros; exact And.intro (by assumption) (by omega)) | grind) ?_)
      apply k4_; clear k4_
      refine Do.seqk fun _ k5_ => ?_
      refine Do.region [2,5,7,9,10,11,12] true ?_
      simp [go_sem]
      repeat (refine And.intro (by first | omega | (intros; omega) | (intros; exact And.intro (by assumption) (by omega)) | grind) ?_)
      refine DoL.sealS true 404 403 rfl ?_
      simp [go_sem]
      refine DoL.call true 405 rfl rfl rfl rfl (by first | exact trivial | omega | (simp; done) | (simp; omega)) (hA) rfl (by first | exact .inl rfl | exact .inr rfl) rfl ?_
      simp [go_sem]
      apply k5_; clear k5_
      refine Do.seqk fun _ k6_ => ?_
      refine Do.seqk fun _ k7_ => ?_
      refine Do.region [2,5,7,9,10,11,12,45] true ?_
      simp [go_sem]
      repeat (refine And.intro (by first | omega | (intros; omega) | (intros; exact And.intro (by assumption) (by omega)) | grind) ?_)
      refine DoL.callg true 509 rfl rfl rfl rfl rfl (by simp [go_sem] <;> omega) (fun _ => Fmt_does) rfl (by first | exact .inl rfl | exact .inr rfl) rfl ?_
      simp [go_sem]
      refine DoL.callg true 510 rfl rfl rfl rfl rfl (by simp [go_sem] <;> omega) (fun _ => hRt) rfl (by first | exact .inl rfl | exact .inr rfl) rfl ?_
      simp [go_sem]
      repeat (refine And.intro (by first | omega | (intros; omega) | (intros; exact And.intro (by assumption) (by omega)) | grind) ?_)
      apply k7_; clear k7_
      refine Do.cond [2,5,7,9,10,11,12] rfl (fun h5 => ?_) (fun h5 => ?_) <;> simp [go_sem] at h5 ⊢
      · rw [if_pos (by simpa using h5)] at hw
        subst hw
        refine Do.region [2,5,7,9,10,11,12] true ?_
        simp [go_sem]
        apply k6_; clear k6_
        refine Do.seqk fun _ k8_ => ?_
        refine Do.seqk fun _ k9_ => ?_
        refine Do.region [2,5,7,9,10,11,12,47] true ?_
        simp [go_sem]
        apply k9_; clear k9_
        refine Do.cond [2,5,7,9,10,11,12] rfl (fun h6 => ?_) (fun h6 => ?_) <;> simp [go_sem] at h6 ⊢
        refine Do.seqk fun _ k10_ => ?_
        refine Do.region [8] true ?_
        simp [go_sem]
        repeat (refine And.intro (by first | omega | (intros; omega) | (intros; exact And.intro (by assumption) (by omega)) | grind) ?_)
        refine DoL.call true 806 rfl rfl rfl rfl (by first | exact trivial | omega | (simp; done) | (simp; omega)) (hF) rfl (by first | exact .inl rfl | exact .inr rfl) rfl ?_
        simp [go_sem]
        refine DoL.callg true 808 rfl rfl rfl rfl rfl (by simp [go_sem] <;> omega) (fun _ => awake20_does) rfl (by first | exact .inl rfl | exact .inr rfl) rfl ?_
        simp [go_sem]
        apply k10_; clear k10_
        refine Do.ret ?_
        simp [endQ, rets, ret1, go_sem]
        repeat (refine And.intro (by first | omega | (intros; omega) | (intros; exact And.intro (by assumption) (by omega)) | grind) ?_)
        exact TLe.refl _
      · rw [if_neg (by simpa using h5)] at hw
        subst hw
        refine Do.skip ?_
        simp [go_sem]
        apply k6_; clear k6_
        refine Do.seqk fun _ k11_ => ?_
        refine Do.seqk fun _ k12_ => ?_
        refine Do.region [2,5,7,9,10,11,12,47] true ?_
        simp [go_sem]
        apply k12_; clear k12_
        refine Do.cond [2,5,7,9,10,11,12] rfl (fun h6 => ?_) (fun h6 => ?_) <;> simp [go_sem] at h6 ⊢
        · refine Do.seqk fun _ k13_ => ?_
          refine Do.region [8] true ?_
          simp [go_sem]
          repeat (refine And.intro (by first | omega | (intros; omega) | (intros; exact And.intro (by assumption) (by omega)) | grind) ?_)
          refine DoL.call true 806 rfl rfl rfl rfl (by first | exact trivial | omega | (simp; done) | (simp; omega)) (hF) rfl (by first | exact .inl rfl | exact .inr rfl) rfl ?_
          simp [go_sem]
          refine DoL.callg true 808 rfl rfl rfl rfl rfl (by simp [go_sem] <;> omega) (fun _ => awake20_does) rfl (by first | exact .inl rfl | exact .inr rfl) rfl ?_
          simp [go_sem]
          apply k13_; clear k13_
          refine Do.ret ?_
          simp [endQ, rets, ret1, go_sem]
          repeat (refine And.intro (by first | omega | (intros; omega) | (intros; exact And.intro (by assumption) (by omega)) | grind) ?_)
          exact TLe.refl _
        · exact absurd h6 he
end Go.Proofs.YtokgalpflooegaaGreatDoor
/- The law ConvertLarge. No condition. -/
namespace Go.Proofs.YtokgalpflooegaaGreatDoor
set_option linter.unusedVariables false
set_option linter.unusedSimpArgs false
set_option maxHeartbeats 4000000
set_option maxRecDepth 10000
section
variable {f p r : Int} {x : Fla}
theorem ToBits_large (hx : x.Ok) (hl : 4096 < x.m.length) : Does Tryz.prog Gv 32 [Fm f p, .c (.i .i64 r), Fl x.k x.n x.e x.m, .c (.i .i64 0), .c (.b true)] (.t [.a [.b false, .z], .c (.i .i64 0), .c (.i .i64 2)]) := by
  have hA := @cargs_does f p f p r true x hx
  rw [show argsC f p f p r true x = 2 by rw [argsC, if_pos hl], if_neg (by decide)] at hA
  refine Does.of (nt := 72) Tryz.func32 rfl rfl rfl (by simp) ?_
  simp only [argTm, PV.ext, Ce.ext]
  refine Do.seqk fun _ k1_ => ?_
  refine Do.region [1,3,4,5,7,10] true ?_
  simp [go_sem]
  apply k1_; clear k1_
  refine Do.seqk fun _ k2_ => ?_
  refine Do.region [1,3,4,7,10,13] true ?_
  simp [go_sem]
  repeat (refine And.intro (by first | omega | (intros; omega) | (intros; exact And.intro (by assumption) (by omega)) | grind) ?_)
  refine DoL.call true 111 rfl rfl rfl rfl (by first | exact trivial | omega | (simp; done) | (simp; omega)) (hA) rfl (by first | exact .inl rfl | exact .inr rfl) rfl ?_
  simp [go_sem]
  repeat (refine And.intro (by first | omega | (intros; omega) | (intros; exact And.intro (by assumption) (by omega)) | grind) ?_)
  apply k2_; clear k2_
  refine Do.seqk fun _ k3_ => ?_
  refine Do.seqk fun _ k4_ => ?_
  refine Do.region [1,3,4,7,10,13,32] true ?_
  simp [go_sem]
  apply k4_; clear k4_
  refine Do.cond [1,3,4,7,10,13] rfl (fun g1 => ?_) (fun g1 => ?_) <;> simp [go_sem] at g1 ⊢
  refine Do.seqk fun _ k5_ => ?_
  refine Do.region [10,11,12] true ?_
  simp [go_sem]
  repeat (refine And.intro (by first | omega | (intros; omega) | (intros; exact And.intro (by assumption) (by omega)) | grind) ?_)
  apply k5_; clear k5_
  refine Do.ret ?_
  simp [endQ, rets, ret1, go_sem]
  repeat (refine And.intro (by first | omega | (intros; omega) | (intros; exact And.intro (by assumption) (by omega)) | grind) ?_)
  exact TLe.refl _
theorem Integral_err (hx : x.Ok) (he : argsC f p f p r false x ≠ 0) : Does Tryz.prog Gv 30 [Fm f p, .c (.i .i64 r), Fl x.k x.n x.e x.m] (.t [Flt.pv ⟨0, false, 0, 0⟩, .c (.i .i64 0), .c (.i .i64 (argsC f p f p r false x))]) := by
  have hA := @cargs_does f p f p r false x hx
  rw [if_neg he] at hA
  generalize argsC f p f p r false x = z at *
  have hz : (z != 0) = true := by simpa using he
  refine Does.of (nt := 52) Tryz.func30 rfl rfl rfl (by simp) ?_
  simp only [argTm, PV.ext, Ce.ext]
  refine Do.seqk fun _ k1_ => ?_
  refine Do.region [1,3,5,6] true ?_
  simp [go_sem]
  apply k1_; clear k1_
  refine Do.seqk fun _ k2_ => ?_
  refine Do.region [1,3,5,6,9] true ?_
  simp [go_sem]
  repeat (refine And.intro (by first | omega | (intros; omega) | (intros; exact And.intro (by assumption) (by omega)) | grind) ?_)
  refine DoL.call true 105 rfl rfl rfl rfl (by first | exact trivial | omega | (simp; done) | (simp; omega)) (hA) rfl (by first | exact .inl rfl | exact .inr rfl) rfl ?_
  simp [go_sem]
  repeat (refine And.intro (by first | omega | (intros; omega) | (intros; exact And.intro (by assumption) (by omega)) | grind) ?_)
  apply k2_; clear k2_
  refine Do.seqk fun _ k3_ => ?_
  refine Do.seqk fun _ k4_ => ?_
  refine Do.region [1,3,5,6,9,28] true ?_
  simp [go_sem, hz]
  repeat (refine And.intro (by first | omega | (intros; omega) | (intros; exact And.intro (by assumption) (by omega)) | grind) ?_)
  apply k4_; clear k4_
  refine Do.cond [1,3,5,6,9] rfl (fun g1 => ?_) (fun g1 => ?_) <;> simp [go_sem, hz] at g1 ⊢
  refine Do.seqk fun _ k5_ => ?_
  refine Do.region [6,7,8] true ?_
  simp [go_sem, hz]
  repeat (refine And.intro (by first | omega | (intros; omega) | (intros; exact And.intro (by assumption) (by omega)) | grind) ?_)
  apply k5_; clear k5_
  refine Do.ret ?_
  simp [endQ, rets, ret1, go_sem, hz]
  repeat (refine And.intro (by first | omega | (intros; omega) | (intros; exact And.intro (by assumption) (by omega)) | grind) ?_)
  exact TLe.refl _
theorem Parts_err (hx : x.Ok) (he : argsC f p f p 2 false x ≠ 0) : Does Tryz.prog Gv 34 [Fm f p, Fl x.k x.n x.e x.m] (.t [Flt.pv ⟨0, false, 0, 0⟩, Flt.pv ⟨0, false, 0, 0⟩, .c (.i .i64 (argsC f p f p 2 false x))]) := by
  have hA := @cargs_does f p f p 2 false x hx
  rw [if_neg he] at hA
  generalize argsC f p f p 2 false x = z at *
  have hz : (z != 0) = true := by simpa using he
  refine Does.of (nt := 67) Tryz.func34 rfl rfl rfl (by simp) ?_
  simp only [argTm, PV.ext, Ce.ext]
  refine Do.seqk fun _ k1_ => ?_
  refine Do.region [2,3,4,5] true ?_
  simp [go_sem]
  apply k1_; clear k1_
  refine Do.seqk fun _ k2_ => ?_
  refine Do.region [2,3,4,5,6] true ?_
  simp [go_sem]
  repeat (refine And.intro (by first | omega | (intros; omega) | (intros; exact And.intro (by assumption) (by omega)) | grind) ?_)
  refine DoL.call true 104 rfl rfl rfl rfl (by first | exact trivial | omega | (simp; done) | (simp; omega)) (hA) rfl (by first | exact .inl rfl | exact .inr rfl) rfl ?_
  simp [go_sem]
  repeat (refine And.intro (by first | omega | (intros; omega) | (intros; exact And.intro (by assumption) (by omega)) | grind) ?_)
  apply k2_; clear k2_
  refine Do.seqk fun _ k3_ => ?_
  refine Do.region [2,3,4,5,6,7] true ?_
  simp [go_sem, hz]
  repeat (refine And.intro (by first | omega | (intros; omega) | (intros; exact And.intro (by assumption) (by omega)) | grind) ?_)
  apply k3_; clear k3_
  refine Do.seqk fun _ k4_ => ?_
  refine Do.block ?_
  refine Do.seqk fun _ k5_ => ?_
  refine Do.region [2,3,4,5,6,7,20] true ?_
  simp [go_sem, hz]
  apply k5_; clear k5_
  refine Do.cond [2,3,4,5,6,7] rfl (fun g1 => ?_) (fun g1 => ?_) <;> simp [go_sem, hz] at g1 ⊢
  refine Do.seqk fun _ k6_ => ?_
  refine Do.region [4,5,6] true ?_
  simp [go_sem, hz]
  repeat (refine And.intro (by first | omega | (intros; omega) | (intros; exact And.intro (by assumption) (by omega)) | grind) ?_)
  apply k6_; clear k6_
  refine Do.ret ?_
  simp [endQ, rets, ret1, go_sem, hz]
  repeat (refine And.intro (by first | omega | (intros; omega) | (intros; exact And.intro (by assumption) (by omega)) | grind) ?_)
  exact TLe.t (.cons (PLe.flt (ret_z rfl)) (.cons (PLe.flt (ret_z rfl)) (.cons (PLe.refl _) .nil)))
theorem Odd_err {n : Bool} {m d : List Nat} (hm : Sh m) (hd : Sh d) (he : checkQ 2 m d ≠ 0) : Does Tryz.prog Gv 20 [Fm f p, Qr n m d] (.t [Flt.pv ⟨0, false, 0, 0⟩, .c (.i .i64 0), .c (.i .i64 (checkQ 2 m d))]) := by
  have hR := @Round_err20 f p 2 n m d hm hd he
  generalize checkQ 2 m d = z at *
  have hz : (z != 0) = true := by simpa using he
  refine Does.of (nt := 109) Tryz.func20 rfl rfl rfl (by simp) ?_
  simp only [argTm, PV.ext, Ce.ext]
  refine Do.seqk fun _ k1_ => ?_
  refine Do.region [2,3,4] true ?_
  simp [go_sem]
  apply k1_; clear k1_
  refine Do.seqk fun _ k2_ => ?_
  refine Do.region [2,3,4,7,8,9] true ?_
  simp [go_sem]
  repeat (refine And.intro (by first | omega | (intros; omega) | (intros; exact And.intro (by assumption) (by omega)) | grind) ?_)
  refine DoL.call true 103 rfl rfl rfl rfl (by first | exact trivial | omega | (simp; done) | (simp; omega)) (hR) rfl (by first | exact .inl rfl | exact .inr rfl) rfl ?_
  simp [go_sem]
  repeat (refine And.intro (by first | omega | (intros; omega) | (intros; exact And.intro (by assumption) (by omega)) | grind) ?_)
  apply k2_; clear k2_
  refine Do.seqk fun _ k3_ => ?_
  refine Do.seqk fun _ k4_ => ?_
  refine Do.region [2,3,4,7,8,9,31] true ?_
  simp [go_sem, hz]
  apply k4_; clear k4_
  refine Do.cond [2,3,4,7,8,9] rfl (fun g1 => ?_) (fun g1 => ?_) <;> simp [go_sem, hz] at g1 ⊢
  refine Do.seqk fun _ k5_ => ?_
  refine Do.region [4,5,6] true ?_
  simp [go_sem, hz]
  repeat (refine And.intro (by first | omega | (intros; omega) | (intros; exact And.intro (by assumption) (by omega)) | grind) ?_)
  apply k5_; clear k5_
  refine Do.ret ?_
  simp [endQ, rets, ret1, go_sem, hz]
  repeat (refine And.intro (by first | omega | (intros; omega) | (intros; exact And.intro (by assumption) (by omega)) | grind) ?_)
  exact TLe.refl _
end
theorem FromInt_does {f p r : Int} {n : Bool} {m : List Nat} (hm : Sh m) (wm : Ws m) : Does Tryz.prog Gv 24 [Fm f p, .c (.i .i64 r), .a [.b n, .w false m]] (Res (roundQ f p r n m)) := by
  have hR := @Round_one f p r n m hm wm
  generalize roundQ f p r n m = z at *
  refine Does.of (nt := 18) Tryz.func24 rfl rfl rfl (by simp) ?_
  simp only [argTm, PV.ext, Ce.ext]
  refine Do.seqk fun _ k1_ => ?_
  refine Do.region [1,3,5,6] true ?_
  simp [go_sem]
  apply k1_; clear k1_
  refine Do.seqk fun _ k2_ => ?_
  refine Do.region [6,7,8] true ?_
  simp [go_sem]
  repeat (refine And.intro (by first | omega | (intros; omega) | (intros; exact And.intro (by assumption) (by omega)) | grind) ?_)
  refine DoL.frz true 105 103 rfl ?_
  simp [go_sem]
  refine DoL.call true 106 rfl rfl rfl rfl (by first | exact trivial | omega | (simp; done) | (simp; omega)) (hR) rfl (by first | exact .inl rfl | exact .inr rfl) rfl ?_
  simp [go_sem]
  repeat (refine And.intro (by first | omega | (intros; omega) | (intros; exact And.intro (by assumption) (by omega)) | grind) ?_)
  apply k2_; clear k2_
  refine Do.ret ?_
  simp [endQ, rets, ret1, go_sem]
  repeat (refine And.intro (by first | omega | (intros; omega) | (intros; exact And.intro (by assumption) (by omega)) | grind) ?_)
  exact TLe.refl _
end Go.Proofs.YtokgalpflooegaaGreatDoor
/- A rational number of the reference, rounded to an integer. No condition. -/
namespace Go.Proofs.YtokgalpflooegaaGreatDoor
set_option linter.unusedVariables false
set_option linter.unusedSimpArgs false
variable {G : Gl}
set_option maxHeartbeats 4000000
set_option maxRecDepth 10000
theorem RRatio_does {a d : Nat} (ha : bl a ≤ 50000000) (hd : bl d ≤ 50000000) (h0 : 0 < d) : Does Tryz.prog G 148 [Wd (nat a), Wd (nat d)] (.v (Pt (a * 2 / d / 2) (decide (a * 2 / d % 2 = 1)) (!decide (a * 2 % d = 0)))) := by
  have la := len_bl ha
  have ld := len_bl hd
  have h1 := @RLeft_does G (nat a) 1 (by omega) (nat_ws _) (by decide)
  rw [val_nat, Nat.pow_one] at h1
  have hb : bl (a * 2) ≤ 50000002 := by
    have := bl_mulN a 2
    have : bl 2 = 2 := by decide
    omega
  have l2 := len_bl hb
  have h2 := @RDivMod_does G (nat (a * 2)) (nat d) (by omega) (nat_ws _) (by omega) (nat_ws _) (by rw [val_nat]; exact h0)
  rw [val_nat, val_nat] at h2
  have l3 := len_bl (Nat.le_trans (bl_mono (Nat.div_le_self (a * 2) d)) hb)
  have l4 := len_bl (Nat.le_trans (bl_mono (Nat.mod_le (a * 2) d)) hb)
  have h3 := @RRight_does G (nat (a * 2 / d)) 1 (by omega) (nat_ws _) (by decide)
  have h4 := @RBit_does G (nat (a * 2 / d)) (by omega) (nat_ws _) 0 (by constructor <;> decide)
  have h5 := @IsZero_does G (nat (a * 2 % d)) (by omega) (nat_ws _)
  rw [val_nat] at h3 h4 h5
  simp only [Nat.pow_one, Int.toNat_zero, Nat.pow_zero, Nat.div_one, decide_true, Bool.true_and, Int.le_refl] at h3 h4 h5
  generalize a * 2 / d = q at *
  generalize a * 2 % d = w at *
  generalize a * 2 = a2 at *
  refine Does.of (nt := 22) Tryz.func148 rfl rfl rfl (by simp) ?_
  simp only [argTm, PV.ext, Ce.ext]
  refine Do.seqk fun _ k1_ => ?_
  refine Do.region [0,1,4] true ?_
  simp [go_sem]
  apply k1_; clear k1_
  refine Do.seqk fun _ k2_ => ?_
  refine Do.region [4,5,6] true ?_
  simp [go_sem]
  refine DoL.call true 102 rfl rfl rfl rfl (by first | exact trivial | omega | (simp; done) | (simp; omega)) (h1) rfl (by first | exact .inl rfl | exact .inr rfl) rfl ?_
  simp [go_sem]
  refine DoL.call true 104 rfl rfl rfl rfl (by first | exact trivial | omega | (simp; done) | (simp; omega)) (h2) rfl (by first | exact .inl rfl | exact .inr rfl) rfl ?_
  simp [go_sem]
  apply k2_; clear k2_
  refine Do.seqk fun _ k3_ => ?_
  refine Do.region [4] true ?_
  simp [go_sem]
  refine DoL.call true 202 rfl rfl rfl rfl (by first | exact trivial | omega | (simp; done) | (simp; omega)) (h3) rfl (by first | exact .inl rfl | exact .inr rfl) rfl ?_
  simp [go_sem]
  refine DoL.call true 204 rfl rfl rfl rfl (by first | exact trivial | omega | (simp; done) | (simp; omega)) (h4) rfl (by first | exact .inl rfl | exact .inr rfl) rfl ?_
  simp [go_sem]
  refine DoL.call true 206 rfl rfl rfl rfl (by first | exact trivial | omega | (simp; done) | (simp; omega)) (h5) rfl (by first | exact .inl rfl | exact .inr rfl) rfl ?_
  simp [go_sem]
  repeat (refine And.intro (by first | omega | (intros; omega) | (intros; exact And.intro (by assumption) (by omega)) | grind) ?_)
  apply k3_; clear k3_
  refine Do.ret ?_
  simp [endQ, rets, ret1, go_sem]
  repeat (refine And.intro (by first | omega | (intros; omega) | (intros; exact And.intro (by assumption) (by omega)) | grind) ?_)
  exact pt_le (PLe.ext (.c (.w true _)))
theorem sv_nat (x : Nu) (z : Int) : (x.sv z).natAbs = x.v * 2 ^ (x.e - z).toNat := by
  unfold Nu.sv
  generalize x.v * 2 ^ (x.e - z).toNat = u
  split <;> omega
theorem whole_ratio {x : Nu} {K : Nat} {z : Int} {d : Nat} (hK : -(K : Int) ≤ x.e) (hD : Dq K z d (x.sv (-K))) :
    z.natAbs * 2 / d / 2 = (cutP x.v (-x.e) false).1 ∧ pcode (decide (z.natAbs * 2 / d % 2 = 1)) (!decide (z.natAbs * 2 % d = 0)) = (cutP x.v (-x.e) false).2 := by
  have h1 : z.natAbs * 2 ^ K = x.v * 2 ^ (x.e - -(K : Int)).toNat * d := by
    have := congrArg Int.natAbs hD.eq
    rw [Int.natAbs_mul, Int.natAbs_mul, sv_nat] at this
    exact this
  have hd := hD.pos
  have hP : 0 < 2 ^ K := Nat.pow_pos (by decide)
  have hmul : z.natAbs * 2 * 2 ^ K = x.v * 2 ^ (x.e - -(K : Int)).toNat * 2 * d := by
    rw [Nat.mul_right_comm, h1, Nat.mul_right_comm]
  have e1 : z.natAbs * 2 / d = x.v * 2 ^ (x.e - -(K : Int)).toNat * 2 / 2 ^ K := by
    rw [← Nat.mul_div_mul_right (z.natAbs * 2) d hP, hmul, Nat.mul_comm d (2 ^ K), Nat.mul_div_mul_right _ _ hd]
  have e2 : z.natAbs * 2 % d = 0 ↔ x.v * 2 ^ (x.e - -(K : Int)).toNat * 2 % 2 ^ K = 0 := by
    have a1 := Nat.mul_mod_mul_right (2 ^ K) (z.natAbs * 2) d
    have a2 := Nat.mul_mod_mul_right d (x.v * 2 ^ (x.e - -(K : Int)).toNat * 2) (2 ^ K)
    rw [hmul, Nat.mul_comm d (2 ^ K), a2] at a1
    constructor
    · intro h
      rw [h, Nat.zero_mul] at a1
      rcases Nat.mul_eq_zero.1 a1 with h | h
      · exact h
      · omega
    · intro h
      rw [h, Nat.zero_mul] at a1
      rcases Nat.mul_eq_zero.1 a1.symm with h | h
      · exact h
      · omega
  rw [e1]
  simp only [e2]
  clear e1 e2 hmul h1 hD
  unfold cutP
  by_cases he : 0 ≤ x.e
  · rw [if_pos (by omega)]
    simp only []
    have e3 : x.v * 2 ^ (x.e - -(K : Int)).toNat * 2 = x.v * 2 ^ x.e.toNat * 2 * 2 ^ K := by
      rw [show (x.e - -(K : Int)).toNat = x.e.toNat + K by omega, Nat.pow_add, ← Nat.mul_assoc, Nat.mul_right_comm]
    rw [e3, Nat.mul_div_cancel _ hP, Nat.mul_mod_left, show (- -x.e).toNat = x.e.toNat by omega]
    refine ⟨Nat.mul_div_cancel _ (by decide), ?_⟩
    rw [Nat.mul_mod_left]
    rfl
  · rw [if_neg (by omega)]
    simp only []
    obtain ⟨s, hs⟩ : ∃ s : Nat, x.e = -((s : Int) + 1) := ⟨(-x.e - 1).toNat, by omega⟩
    have hsK : s + 1 ≤ K := by omega
    rw [show (x.e - -(K : Int)).toNat = K - (s + 1) by omega, show (-x.e).toNat = s + 1 by omega, show (-x.e - 1).toNat = s by omega]
    have e3 : x.v * 2 ^ (K - (s + 1)) * 2 = x.v * 2 ^ (K - s) := by
      rw [Nat.mul_assoc, ← Nat.pow_succ]; congr 2; omega
    have e4 : 2 ^ K = 2 ^ s * 2 ^ (K - s) := by rw [← Nat.pow_add]; congr 1; omega
    have hQ : 0 < 2 ^ (K - s) := Nat.pow_pos (by decide)
    rw [e3, e4, Nat.mul_div_mul_right _ _ hQ, Nat.mul_mod_mul_right]
    have e5 : x.v % 2 ^ s * 2 ^ (K - s) = 0 ↔ x.v % 2 ^ s = 0 := by
      constructor
      · intro h
        rcases Nat.mul_eq_zero.1 h with h | h
        · exact h
        · omega
      · intro h; rw [h, Nat.zero_mul]
    simp only [e5]
    refine ⟨by rw [Nat.div_div_eq_div_mul, ← Nat.pow_succ], ?_⟩
    by_cases g1 : x.v / 2 ^ s % 2 = 1 <;> by_cases g2 : x.v % 2 ^ s = 0 <;> simp [g1, g2, pcode]
theorem cut_none (s : Int) : cutP 0 s false = (0, 0) := by
  unfold cutP
  split <;> simp
theorem whole_sign (r : Int) (x : Nu) (z : Int) : upP r (decide (x.sv z < 0)) (cutP x.v (-x.e) false).1 (cutP x.v (-x.e) false).2 = (wholeP r x).1 ∧ sgn (decide (x.sv z < 0)) (wholeP r x).1 = sgn x.n (wholeP r x).1 := by
  unfold wholeP
  simp only []
  by_cases hv : x.v = 0
  · rw [hv, cut_none]
    simp only [upP_none]
    refine ⟨trivial, ?_⟩
    unfold sgn
    split <;> split <;> rfl
  · have h : decide (x.sv z < 0) = x.n := by
      have hp : 0 < x.v * 2 ^ (x.e - z).toNat := Nat.mul_pos (Nat.pos_of_ne_zero hv) (Nat.pow_pos (by decide))
      unfold Nu.sv
      generalize x.v * 2 ^ (x.e - z).toNat = u at *
      cases x.n
      · simp
      · simp; omega
    rw [h]
    exact ⟨rfl, rfl⟩
theorem whole_code (r : Int) (x : Nu) {h s : Bool} (e : pcode h s = (cutP x.v (-x.e) false).2) : (pcode h s == 0) = (wholeP r x).2 := by
  rw [e]; unfold wholeP; simp only []
  cases hh : decide ((cutP x.v (-x.e) false).2 = 0) <;> simp_all
theorem wholeP_bl (r : Int) (x : Nu) : bl (wholeP r x).1 ≤ bl x.v + x.e.toNat + 1 := by
  unfold wholeP
  have h1 := cutP_bl x.v (-x.e) false
  have h2 := upP_bl r x.n (cutP x.v (-x.e) false).1 (cutP x.v (-x.e) false).2
  rw [Int.neg_neg] at h1
  simp only []
  omega
theorem RInteger_does {r : Int} (hr : 0 ≤ r) (hr' : r ≤ 4) {x : Nu} {K : Nat} {z : Int} {d : Nat} (hK : K ≤ 8000000) (hKe : -(K : Int) ≤ x.e) (hD : Dq K z d (x.sv (-K))) (hb : bl (x.sv (-K)).natAbs ≤ 20000000) : Does Tryz.prog G 84 [.c (.i .i64 r), Qv z d] (.t [Iv (sgn x.n (wholeP r x).1), .c (.b (wholeP r x).2)]) := by
  obtain ⟨s1, s2, s3⟩ := hD.small
  have hN := @QNorm G z d (by omega) (by omega) hD.pos
  have hD2 := Dq.norm hD.eq hD.pos
  generalize nz z d = z' at *
  generalize nd z d = d' at *
  obtain ⟨t1, t2, t3⟩ := hD2.small
  obtain ⟨w1, w2⟩ := whole_ratio hKe hD2
  obtain ⟨v1, v2⟩ := whole_sign r x (-K)
  have v3 := whole_code r x w2
  have hQ := @IvSign G z' (by omega)
  have hsg : decide (z'.sign < 0) = decide (x.sv (-(K : Int)) < 0) := by
    rw [hD2.sign]
    congr 1
    apply propext
    rw [Int.sign_neg_iff]
  have hz0 : decide (z' < 0) = decide (x.sv (-(K : Int)) < 0) := by
    rw [← hsg]
    congr 1
    apply propext
    rw [Int.sign_neg_iff]
  have hR := @RRatio_does G z'.natAbs d' (by omega) (by omega) hD2.pos
  rw [w1] at hR
  have hcb : bl (cutP x.v (-x.e) false).1 ≤ 40000002 := by
    rw [← w1]
    have a1 := bl_mono (Nat.div_le_self (z'.natAbs * 2 / d') 2)
    have a2 := bl_mono (Nat.div_le_self (z'.natAbs * 2) d')
    have a3 := bl_mulN z'.natAbs 2
    have : bl 2 = 2 := by decide
    omega
  have hU := @Rounded_does G r hr hr' (decide (x.sv (-(K : Int)) < 0)) (decide (z'.natAbs * 2 / d' % 2 = 1)) (!decide (z'.natAbs * 2 % d' = 0)) (cutP x.v (-x.e) false).1 (by omega)
  rw [v3, w2, v1] at hU
  have hub : bl (wholeP r x).1 ≤ 40000003 := by
    have := upP_bl r x.n (cutP x.v (-x.e) false).1 (cutP x.v (-x.e) false).2
    have e : (wholeP r x).1 = upP r x.n (cutP x.v (-x.e) false).1 (cutP x.v (-x.e) false).2 := rfl
    rw [e]; omega
  have hM := @IvMake G (decide (x.sv (-(K : Int)) < 0)) (wholeP r x).1 (by omega)
  rw [v2] at hM
  have hN : Does Tryz.prog G 106 [Qv z d] (.v (.a [.b (decide (x.sv (-(K : Int)) < 0)), .w false (nat z'.natAbs), .w false (nat d')])) := by
    rw [← hz0]; exact hN
  have hQ : Does Tryz.prog G 131 [.a [.b (decide (x.sv (-(K : Int)) < 0)), .w false (nat z'.natAbs), .w false (nat d')]] (.int .i64 z'.sign) := by
    have h := @QSign G K z' (x.sv (-(K : Int))) d' hD2 hb
    rw [← hD2.sign] at h
    rw [← hz0]; exact h
  clear hD hD2 v1 v2 v3 w1 w2
  generalize decide (x.sv (-(K : Int)) < 0) = bb at *
  generalize decide (z'.natAbs * 2 / d' % 2 = 1) = b1 at *
  generalize (!decide (z'.natAbs * 2 % d' = 0)) = b2 at *
  generalize (cutP x.v (-x.e) false).1 = c1 at *
  generalize sgn x.n (wholeP r x).1 = Z at *
  generalize (wholeP r x).1 = W1 at *
  generalize (wholeP r x).2 = W2 at *
  generalize z'.sign = sg at *
  refine Does.of (nt := 30) Tryz.func84 rfl rfl rfl (by simp) ?_
  simp only [argTm, PV.ext, Ce.ext]
  refine Do.seqk fun _ k1_ => ?_
  refine Do.region [0,3,4] true ?_
  simp [go_sem]
  apply k1_; clear k1_
  refine Do.seqk fun _ k2_ => ?_
  refine Do.region [0,3,4] true ?_
  simp [go_sem]
  repeat (refine And.intro (by first | omega | (intros; omega) | (intros; exact And.intro (by assumption) (by omega)) | grind) ?_)
  refine DoL.call true 102 rfl rfl rfl rfl (by first | exact trivial | omega | (simp; done) | (simp; omega)) (hN) rfl (by first | exact .inl rfl | exact .inr rfl) rfl ?_
  simp [go_sem]
  repeat (refine And.intro (by first | omega | (intros; omega) | (intros; exact And.intro (by assumption) (by omega)) | grind) ?_)
  apply k2_; clear k2_
  refine Do.seqk fun _ k3_ => ?_
  refine Do.draw [3,4,6,7] true (by kernel_rfl) ?_
  simp [go_sem]
  repeat (refine And.intro (by first | omega | (intros; omega) | (intros; exact And.intro (by assumption) (by omega)) | kernel_rfl | grind) ?_)
  refine DoLD.call true 203 rfl rfl rfl rfl (by first | exact trivial | omega | (simp; done) | (simp; omega)) (hQ) rfl (by first | exact .inl rfl | exact .inr rfl) rfl ?_
  simp [go_sem]
  repeat (refine And.intro (by first | omega | (intros; omega) | (intros; exact And.intro (by assumption) (by omega)) | kernel_rfl | grind) ?_)
  refine DoLD.call true 210 rfl rfl rfl rfl (by first | exact trivial | omega | (simp; done) | (simp; omega)) (hR) rfl (by first | exact .inl rfl | exact .inr rfl) rfl ?_
  simp [go_sem, hsg]
  refine DoLD.call true 211 rfl rfl rfl rfl (by first | exact trivial | omega | (simp; done) | (simp; omega)) (hU) rfl (by first | exact .inl rfl | exact .inr rfl) rfl ?_
  simp [go_sem, hsg]
  try (refine And.intro (by kernel_rfl) ?_)
  apply k3_; clear k3_
  refine Do.seqk fun _ k4_ => ?_
  refine Do.region [4,5] true ?_
  simp [go_sem, hsg]
  repeat (refine And.intro (by first | omega | (intros; omega) | (intros; exact And.intro (by assumption) (by omega)) | grind) ?_)
  refine DoL.call true 305 rfl rfl rfl rfl (by first | exact trivial | omega | (simp; done) | (simp; omega)) (hM) rfl (by first | exact .inl rfl | exact .inr rfl) rfl ?_
  simp [go_sem, hsg]
  repeat (refine And.intro (by first | omega | (intros; omega) | (intros; exact And.intro (by assumption) (by omega)) | grind) ?_)
  apply k4_; clear k4_
  refine Do.ret ?_
  simp [endQ, rets, ret1, go_sem, hsg]
  repeat (refine And.intro (by first | omega | (intros; omega) | (intros; exact And.intro (by assumption) (by omega)) | grind) ?_)
  exact TLe.refl _
theorem fv_sv {a : Flt} (hf : rcanon a = a) (hk : a.k = 0 ∨ a.k = 1) (z : Int) : fv z a = (Nu.mk a.n a.v a.e).sv z := by
  unfold fv
  split
  · rfl
  · rename_i h
    have h0 : a.v = 0 := by
      unfold rcanon at hf
      rw [if_neg h] at hf
      have := congrArg Flt.v hf
      simpa using this.symm
    unfold Nu.sv
    simp [h0]
theorem RToInt_does {r : Int} (hr : 0 ≤ r) (hr' : r ≤ 4) {x : Fla} (hx : Rt x) {a : Flt} (ha : rcanon x.flt = a) (hk : a.k = 0 ∨ a.k = 1) : Does Tryz.prog G 28 [.c (.i .i64 r), Fl x.k x.n x.e x.m] (.t [Iv (sgn a.n (wholeP r ⟨a.n, a.v, a.e⟩).1), .c (.i .i64 (if (wholeP r ⟨a.n, a.v, a.e⟩).2 then 0 else 1))]) := by
  obtain ⟨z, d, h1, h2, h3⟩ := @FRatK G x hx
  have hfv : fv (-(1048576 : Nat)) x.flt = fv (-(1048576 : Nat)) a := by
    rw [← ha]; exact (@fv_rcan x.flt (-(1048576 : Nat)) (fun hk => (canon_one hx.can hk).1)).symm
  have hfix : rcanon a = a := by rw [← ha]; exact rcanon_idem _
  have hae : -((1048576 : Nat) : Int) ≤ a.e := by
    rcases hk with hk | hk
    · unfold rcanon at hfix
      rw [if_neg (by omega)] at hfix
      have := congrArg Flt.e hfix
      simp only [] at this
      omega
    · have hc := canon_rc hx.can
      rw [ha] at hc
      exact (canon_one hc hk).1
  rw [hfv, fv_sv hfix hk] at h2 h3
  have hI := @RInteger_does G r hr hr' ⟨a.n, a.v, a.e⟩ 1048576 z d (by decide) hae h2 (by omega)
  simp only [] at hI
  generalize sgn a.n (wholeP r ⟨a.n, a.v, a.e⟩).1 = Z at *
  generalize (wholeP r ⟨a.n, a.v, a.e⟩).2 = W at *
  cases W with
  | false =>
    refine Does.of (nt := 19) Tryz.func28 rfl rfl rfl (by simp) ?_
    simp only [argTm, PV.ext, Ce.ext]
    refine Do.seqk fun _ k1_ => ?_
    refine Do.region [0,3,4] true ?_
    simp [go_sem]
    apply k1_; clear k1_
    refine Do.seqk fun _ k2_ => ?_
    refine Do.region [4,6,7] true ?_
    simp [go_sem]
    repeat (refine And.intro (by first | omega | (intros; omega) | (intros; exact And.intro (by assumption) (by omega)) | grind) ?_)
    refine DoL.call true 103 rfl rfl rfl rfl (by first | exact trivial | omega | (simp; done) | (simp; omega)) (h1) rfl (by first | exact .inl rfl | exact .inr rfl) rfl ?_
    simp [go_sem]
    refine DoL.call true 104 rfl rfl rfl rfl (by first | exact trivial | omega | (simp; done) | (simp; omega)) (hI) rfl (by first | exact .inl rfl | exact .inr rfl) rfl ?_
    simp [go_sem]
    repeat (refine And.intro (by first | omega | (intros; omega) | (intros; exact And.intro (by assumption) (by omega)) | grind) ?_)
    apply k2_; clear k2_
    refine Do.seqk fun _ k3_ => ?_
    refine Do.seqk fun _ k4_ => ?_
    refine Do.region [4,6,16] true ?_
    simp [go_sem]
    repeat (refine And.intro (by first | omega | (intros; omega) | (intros; exact And.intro (by assumption) (by omega)) | grind) ?_)
    apply k4_; clear k4_
    refine Do.cond [4,6] rfl (fun g => ?_) (fun g => ?_) <;> simp [go_sem] at g ⊢
    refine Do.seqk fun _ k5_ => ?_
    refine Do.region [4,5] true ?_
    simp [go_sem]
    repeat (refine And.intro (by first | omega | (intros; omega) | (intros; exact And.intro (by assumption) (by omega)) | grind) ?_)
    apply k5_; clear k5_
    refine Do.ret ?_
    simp [endQ, rets, ret1, go_sem]
    repeat (refine And.intro (by first | omega | (intros; omega) | (intros; exact And.intro (by assumption) (by omega)) | grind) ?_)
    exact TLe.refl _
  | true =>
    refine Does.of (nt := 19) Tryz.func28 rfl rfl rfl (by simp) ?_
    simp only [argTm, PV.ext, Ce.ext]
    refine Do.seqk fun _ k1_ => ?_
    refine Do.region [0,3,4] true ?_
    simp [go_sem]
    apply k1_; clear k1_
    refine Do.seqk fun _ k2_ => ?_
    refine Do.region [4,6,7] true ?_
    simp [go_sem]
    repeat (refine And.intro (by first | omega | (intros; omega) | (intros; exact And.intro (by assumption) (by omega)) | grind) ?_)
    refine DoL.call true 103 rfl rfl rfl rfl (by first | exact trivial | omega | (simp; done) | (simp; omega)) (h1) rfl (by first | exact .inl rfl | exact .inr rfl) rfl ?_
    simp [go_sem]
    refine DoL.call true 104 rfl rfl rfl rfl (by first | exact trivial | omega | (simp; done) | (simp; omega)) (hI) rfl (by first | exact .inl rfl | exact .inr rfl) rfl ?_
    simp [go_sem]
    repeat (refine And.intro (by first | omega | (intros; omega) | (intros; exact And.intro (by assumption) (by omega)) | grind) ?_)
    apply k2_; clear k2_
    refine Do.seqk fun _ k3_ => ?_
    refine Do.seqk fun _ k4_ => ?_
    refine Do.region [4,6,16] true ?_
    simp [go_sem]
    repeat (refine And.intro (by first | omega | (intros; omega) | (intros; exact And.intro (by assumption) (by omega)) | grind) ?_)
    apply k4_; clear k4_
    refine Do.cond [4,6] rfl (fun g => ?_) (fun g => ?_) <;> simp [go_sem] at g ⊢
    refine Do.skip ?_
    simp [go_sem]
    apply k3_; clear k3_
    refine Do.seqk fun _ k5_ => ?_
    refine Do.region [4,5] true ?_
    simp [go_sem]
    repeat (refine And.intro (by first | omega | (intros; omega) | (intros; exact And.intro (by assumption) (by omega)) | grind) ?_)
    apply k5_; clear k5_
    refine Do.ret ?_
    simp [endQ, rets, ret1, go_sem]
    repeat (refine And.intro (by first | omega | (intros; omega) | (intros; exact And.intro (by assumption) (by omega)) | grind) ?_)
    exact TLe.refl _
end Go.Proofs.YtokgalpflooegaaGreatDoor
/- The law ConvertIntegrals. No condition. -/
namespace Go.Proofs.YtokgalpflooegaaGreatDoor
set_option linter.unusedVariables false
set_option linter.unusedSimpArgs false
set_option maxHeartbeats 4000000
set_option maxRecDepth 10000
/-- An integer as a float; 0 gets a sign. -/
def fromP (z : Int) (n : Bool) : Flt := if z = 0 then ⟨0, n, 0, 0⟩ else rcanon ⟨1, decide (z < 0), 0, z.natAbs⟩
theorem fromP_rest {z : Int} (h : z ≠ 0) (n : Bool) : fromP z n = restP 0 z := by
  unfold fromP restP
  rw [if_neg h, if_neg h]
theorem RFrom_does {G : Gl} {z : Int} {n : Bool} (hz : bl z.natAbs ≤ 1000000) : Does Tryz.prog G 87 [Iv z, .c (.b n)] (.v (fromP z n).pw) := by
  have h1 := @IvSign G z (by omega)
  have hl := len_bl hz
  have hc := @Canonical_new G 1 0 (decide (z < 0)) (nat z.natAbs) (by omega) (nat_ws _) (by constructor <;> decide)
  rw [val_nat] at hc
  unfold fromP
  by_cases h0 : z = 0
  · rw [if_pos h0]
    subst h0
    refine Does.of (nt := 16) Tryz.func87 rfl rfl rfl (by simp) ?_
    simp only [argTm, PV.ext, Ce.ext]
    refine Do.seqk fun _ k1_ => ?_
    refine Do.region [1,2,4] true ?_
    simp [go_sem]
    apply k1_; clear k1_
    refine Do.seqk fun _ k2_ => ?_
    refine Do.seqk fun _ k3_ => ?_
    refine Do.region [1,2,4,7] true ?_
    simp [go_sem]
    repeat (refine And.intro (by first | omega | (intros; omega) | (intros; exact And.intro (by assumption) (by omega)) | grind) ?_)
    refine DoL.call true 102 rfl rfl rfl rfl (by first | exact trivial | omega | (simp; done) | (simp; omega)) (h1) rfl (by first | exact .inl rfl | exact .inr rfl) rfl ?_
    simp [go_sem]
    apply k3_; clear k3_
    refine Do.cond [1,2,4] rfl (fun g => ?_) (fun g => ?_) <;> simp [go_sem] at g ⊢
    refine Do.seqk fun _ k4_ => ?_
    refine Do.region [4] true ?_
    simp [go_sem]
    repeat (refine And.intro (by first | omega | (intros; omega) | (intros; exact And.intro (by assumption) (by omega)) | grind) ?_)
    apply k4_; clear k4_
    refine Do.ret ?_
    simp [endQ, rets, ret1, go_sem]
    repeat (refine And.intro (by first | omega | (intros; omega) | (intros; exact And.intro (by assumption) (by omega)) | grind) ?_)
    exact TLe.v (PLe.flw (ret_zw rfl))
  · rw [if_neg h0]
    have hs : (z.sign == 0) = false := by
      rw [beq_eq_false_iff_ne, ne_eq, Int.sign_eq_zero_iff_zero]; exact h0
    have hc : Does Tryz.prog G 53 [Fl 1 (decide (z < 0)) 0 (nat z.natAbs)] (.v (rcanon ⟨1, decide (z < 0), 0, z.natAbs⟩).pw) := hc
    generalize rcanon ⟨1, decide (z < 0), 0, z.natAbs⟩ = y at *
    generalize z.sign = sg at *
    refine Does.of (nt := 16) Tryz.func87 rfl rfl rfl (by simp) ?_
    simp only [argTm, PV.ext, Ce.ext]
    refine Do.seqk fun _ k1_ => ?_
    refine Do.region [1,2,4] true ?_
    simp [go_sem]
    apply k1_; clear k1_
    refine Do.seqk fun _ k2_ => ?_
    refine Do.seqk fun _ k3_ => ?_
    refine Do.region [1,2,4,7] true ?_
    simp [go_sem]
    repeat (refine And.intro (by first | omega | (intros; omega) | (intros; exact And.intro (by assumption) (by omega)) | grind) ?_)
    refine DoL.call true 102 rfl rfl rfl rfl (by first | exact trivial | omega | (simp; done) | (simp; omega)) (h1) rfl (by first | exact .inl rfl | exact .inr rfl) rfl ?_
    simp [go_sem]
    apply k3_; clear k3_
    refine Do.cond [1,2,4] rfl (fun g => ?_) (fun g => ?_) <;> simp [go_sem, hs] at g ⊢
    refine Do.skip ?_
    simp [go_sem]
    apply k2_; clear k2_
    refine Do.seqk fun _ k4_ => ?_
    refine Do.region [4] true ?_
    simp [go_sem, hs]
    repeat (refine And.intro (by first | omega | (intros; omega) | (intros; exact And.intro (by assumption) (by omega)) | grind) ?_)
    refine DoL.call true 306 rfl rfl rfl rfl (by first | exact trivial | omega | (simp; done) | (simp; omega)) (hc) rfl (by first | exact .inl rfl | exact .inr rfl) rfl ?_
    simp [go_sem, hs]
    repeat (refine And.intro (by first | omega | (intros; omega) | (intros; exact And.intro (by assumption) (by omega)) | grind) ?_)
    apply k4_; clear k4_
    refine Do.ret ?_
    simp [endQ, rets, ret1, go_sem, hs]
    repeat (refine And.intro (by first | omega | (intros; omega) | (intros; exact And.intro (by assumption) (by omega)) | grind) ?_)
    exact TLe.refl _
theorem integral_does {f p : Int} (hf : fmOk f p = true) {z : Int} {n : Bool} (hz : bl z.natAbs ≤ 1000000) : Does Tryz.prog Gv 86 [Fm f p, Iv z, .c (.b n)] (.t [((Nu.mk (decide (z < 0)) z.natAbs 0).round f p 0 n).1.pv, .c (.b (((Nu.mk (decide (z < 0)) z.natAbs 0).round f p 0 n).2 == 0))]) := by
  have h := @NFloat_does f p 0 hf (by decide) (by decide) (Nu.mk (decide (z < 0)) z.natAbs 0) n ⟨by show (-4194304 : Int) ≤ 0; decide, by show (0 : Int) + bl z.natAbs ≤ 4194304; omega⟩
  have h : Does Tryz.prog Gv 49 [.a [.b (decide (z < 0)), .w false (nat z.natAbs), .i .i64 0], Fm f p, .c (.i .i64 0), .c (.b n)] (.t [((Nu.mk (decide (z < 0)) z.natAbs 0).round f p 0 n).1.pv, .c (.i .i64 ((Nu.mk (decide (z < 0)) z.natAbs 0).round f p 0 n).2)]) := h
  generalize (Nu.mk (decide (z < 0)) z.natAbs 0).round f p 0 n = y at *
  refine Does.of (nt := 24) Tryz.func86 rfl rfl rfl (by simp) ?_
  simp only [argTm, PV.ext, Ce.ext]
  refine Do.seqk fun _ k1_ => ?_
  refine Do.region [2,3,4,6] true ?_
  simp [go_sem]
  apply k1_; clear k1_
  refine Do.seqk fun _ k2_ => ?_
  refine Do.region [6,8,9] true ?_
  simp [go_sem]
  repeat (refine And.intro (by first | omega | (intros; omega) | (intros; exact And.intro (by assumption) (by omega)) | grind) ?_)
  refine DoL.call true 108 rfl rfl rfl rfl (by first | exact trivial | omega | (simp; done) | (simp; omega)) (h) rfl (by first | exact .inl rfl | exact .inr rfl) rfl ?_
  simp [go_sem]
  repeat (refine And.intro (by first | omega | (intros; omega) | (intros; exact And.intro (by assumption) (by omega)) | grind) ?_)
  apply k2_; clear k2_
  refine Do.seqk fun _ k3_ => ?_
  refine Do.region [6,7] true ?_
  simp [go_sem]
  repeat (refine And.intro (by first | omega | (intros; omega) | (intros; exact And.intro (by assumption) (by omega)) | grind) ?_)
  apply k3_; clear k3_
  refine Do.ret ?_
  simp [endQ, rets, ret1, go_sem]
  repeat (refine And.intro (by first | omega | (intros; omega) | (intros; exact And.intro (by assumption) (by omega)) | grind) ?_)
  exact TLe.refl _
/-- What an integer rounded to a format without flags is. -/
theorem integral_ok {f p : Int} (hf : fmOk f p = true) (z : Int) (n : Bool) : (((Nu.mk (decide (z < 0)) z.natAbs 0).round f p 0 n).2 == 0) = inP f p (fromP z n) ∧ (inP f p (fromP z n) = true → ((Nu.mk (decide (z < 0)) z.natAbs 0).round f p 0 n).1 = fromP z n) := by
  by_cases h0 : z = 0
  · subst h0
    have e : (Nu.mk (decide ((0 : Int) < 0)) (0 : Int).natAbs 0).round f p 0 n = (⟨0, n, 0, 0⟩, 0) := rfl
    rw [e]
    exact ⟨rfl, fun _ => rfl⟩
  · have hr : (Nu.mk (decide (z < 0)) z.natAbs 0).round f p 0 n = (Nu.mk (decide (z < 0)) z.natAbs 0).round f p 0 false := by
      unfold Nu.round
      simp only []
      rw [if_neg (by omega), if_neg (by omega)]
    obtain ⟨i1, i2⟩ := @inP_flags f p hf 0 z ⟨decide (z < 0), z.natAbs, 0⟩ (Int.le_refl _) (sv_abs _ _)
    rw [hr, fromP_rest h0]
    cases hi : inP f p (restP 0 z) with
    | true =>
      rw [i1 hi]
      exact ⟨rfl, fun _ => rfl⟩
    | false =>
      refine ⟨?_, fun h => by cases h⟩
      rw [beq_eq_false_iff_ne]
      intro h
      rw [i2 h] at hi
      cases hi
theorem fromP_fine {f p : Int} (hf : fmOk f p = true) {z : Int} {n : Bool} (h : inP f p (fromP z n) = true) : Fine (fromP z n) ∧ rcanon (fromP z n) = fromP z n := by
  rw [← (integral_ok hf z n).2 h]
  unfold Nu.round
  split
  · exact ⟨fine_zero, rfl⟩
  · exact ⟨roundP_fine hf, roundP_fix hf⟩
theorem RIntegral_does {G : Gl} {f p r : Int} (hf : fmOk f p = true) (hr : 0 ≤ r) (hr' : r ≤ 4) {x : Fla} (hx : Rt x) {a : Flt} (ha : rcanon x.flt = a) (hk : a.k = 1) (hb : bl a.v + a.e.toNat ≤ 100000) :
    (inP f p (fromP (sgn a.n (wholeP r ⟨a.n, a.v, a.e⟩).1) a.n) = true → Does Tryz.prog G 31 [Fm f p, .c (.i .i64 r), Fl x.k x.n x.e x.m] (.t [(fromP (sgn a.n (wholeP r ⟨a.n, a.v, a.e⟩).1) a.n).pw, .c (.i .i64 (if (wholeP r ⟨a.n, a.v, a.e⟩).2 then 0 else 1)), .c (.b true)])) ∧
    (inP f p (fromP (sgn a.n (wholeP r ⟨a.n, a.v, a.e⟩).1) a.n) = false → Does Tryz.prog G 31 [Fm f p, .c (.i .i64 r), Fl x.k x.n x.e x.m] (.t [Flt.pw ⟨0, false, 0, 0⟩, .c (.i .i64 0), .c (.b false)])) := by
  have hT := @RToInt_does G r hr hr' x hx a ha (.inr hk)
  have hxk : x.k = 1 := by rw [← hk, ← ha, rcanon_k]; rfl
  have hxn : x.n = a.n := by rw [← ha, rcanon_n]; rfl
  have hwb := wholeP_bl r ⟨a.n, a.v, a.e⟩
  simp only [] at hwb
  have hsb : bl (sgn a.n (wholeP r ⟨a.n, a.v, a.e⟩).1).natAbs ≤ 1000000 := by rw [sgn_abs]; omega
  have hFr := @RFrom_does G (sgn a.n (wholeP r ⟨a.n, a.v, a.e⟩).1) a.n hsb
  generalize sgn a.n (wholeP r ⟨a.n, a.v, a.e⟩).1 = Z at *
  generalize (if (wholeP r ⟨a.n, a.v, a.e⟩).2 = true then (0 : Int) else 1) = fl at *
  have hfb : (nat (fromP Z a.n).v).length ≤ 1073741824 ∧ Md (fromP Z a.n).e := by
    unfold fromP
    split
    · simp only []; rw [nat_zero]; exact ⟨by decide, by constructor <;> decide⟩
    · have hz0 : 0 < Z.natAbs := by omega
      have h1 := tz_lt_bl hz0
      unfold rcanon
      rw [if_pos rfl]
      simp only []
      have h2 := nat_len_bl (Z.natAbs / 2 ^ tz Z.natAbs)
      have h3 := bl_mono (Nat.div_le_self Z.natAbs (2 ^ tz Z.natAbs))
      exact ⟨by omega, by constructor <;> omega⟩
  have hIn := @In_does G f p (fromP Z a.n).k (fromP Z a.n).e (fromP Z a.n).n (nat (fromP Z a.n).v) hf hfb.1 (nat_ws _) hfb.2
  rw [val_nat] at hIn
  have hIn : Does Tryz.prog G 69 [Fm f p, (fromP Z a.n).pv] (.v (.c (.b (inP f p (fromP Z a.n))))) := hIn
  rw [← hxn] at *
  generalize fromP Z x.n = y at *
  refine ⟨fun hi => ?_, fun hi => ?_⟩
  · rw [hi] at hIn
    refine Does.of (nt := 34) Tryz.func31 rfl rfl rfl (by simp) ?_
    simp only [argTm, PV.ext, Ce.ext]
    refine Do.seqk fun _ k1_ => ?_
    refine Do.region [1,3,5,6] true ?_
    simp [go_sem]
    apply k1_; clear k1_
    refine Do.seqk fun _ k2_ => ?_
    refine Do.seqk fun _ k3_ => ?_
    refine Do.region [1,3,5,6,14] true ?_
    simp [go_sem]
    repeat (refine And.intro (by first | omega | (intros; omega) | (intros; exact And.intro (by assumption) (by omega)) | grind) ?_)
    apply k3_; clear k3_
    refine Do.cond [1,3,5,6] rfl (fun g1 => ?_) (fun g1 => ?_) <;> simp [go_sem] at g1 ⊢
    · exact absurd hxk g1
    · refine Do.skip ?_
      simp [go_sem]
      apply k2_; clear k2_
      refine Do.seqk fun _ k4_ => ?_
      refine Do.region [3,5,6,9,10] true ?_
      simp [go_sem]
      repeat (refine And.intro (by first | omega | (intros; omega) | (intros; exact And.intro (by assumption) (by omega)) | grind) ?_)
      refine DoL.call true 303 rfl rfl rfl rfl (by first | exact trivial | omega | (simp; done) | (simp; omega)) (hT) rfl (by first | exact .inl rfl | exact .inr rfl) rfl ?_
      simp [go_sem]
      repeat (refine And.intro (by first | omega | (intros; omega) | (intros; exact And.intro (by assumption) (by omega)) | grind) ?_)
      apply k4_; clear k4_
      refine Do.seqk fun _ k5_ => ?_
      refine Do.region [3,6,10,11] true ?_
      simp [go_sem]
      repeat (refine And.intro (by first | omega | (intros; omega) | (intros; exact And.intro (by assumption) (by omega)) | grind) ?_)
      refine DoL.call true 404 rfl rfl rfl rfl (by first | exact trivial | omega | (simp; done) | (simp; omega)) (hFr) rfl (by first | exact .inl rfl | exact .inr rfl) rfl ?_
      simp [go_sem]
      repeat (refine And.intro (by first | omega | (intros; omega) | (intros; exact And.intro (by assumption) (by omega)) | grind) ?_)
      apply k5_; clear k5_
      refine Do.seqk fun _ k6_ => ?_
      refine Do.seqk fun _ k7_ => ?_
      refine Do.region [6,10,11,30] true ?_
      simp [go_sem]
      repeat (refine And.intro (by first | omega | (intros; omega) | (intros; exact And.intro (by assumption) (by omega)) | grind) ?_)
      refine DoL.call true 503 rfl rfl rfl rfl (by first | exact trivial | omega | (simp; done) | (simp; omega)) (hIn) rfl (by first | exact .inl rfl | exact .inr rfl) rfl ?_
      simp [go_sem]
      repeat (refine And.intro (by first | omega | (intros; omega) | (intros; exact And.intro (by assumption) (by omega)) | grind) ?_)
      apply k7_; clear k7_
      refine Do.cond [6,10,11] rfl (fun g2 => ?_) (fun g2 => ?_) <;> simp [go_sem] at g2 ⊢
      refine Do.skip ?_
      simp [go_sem]
      apply k6_; clear k6_
      refine Do.seqk fun _ k8_ => ?_
      refine Do.region [6,7,8] true ?_
      simp [go_sem]
      repeat (refine And.intro (by first | omega | (intros; omega) | (intros; exact And.intro (by assumption) (by omega)) | grind) ?_)
      apply k8_; clear k8_
      refine Do.ret ?_
      simp [endQ, rets, ret1, go_sem]
      repeat (refine And.intro (by first | omega | (intros; omega) | (intros; exact And.intro (by assumption) (by omega)) | grind) ?_)
      exact TLe.refl _
  · rw [hi] at hIn
    refine Does.of (nt := 34) Tryz.func31 rfl rfl rfl (by simp) ?_
    simp only [argTm, PV.ext, Ce.ext]
    refine Do.seqk fun _ k1_ => ?_
    refine Do.region [1,3,5,6] true ?_
    simp [go_sem]
    apply k1_; clear k1_
    refine Do.seqk fun _ k2_ => ?_
    refine Do.seqk fun _ k3_ => ?_
    refine Do.region [1,3,5,6,14] true ?_
    simp [go_sem]
    repeat (refine And.intro (by first | omega | (intros; omega) | (intros; exact And.intro (by assumption) (by omega)) | grind) ?_)
    apply k3_; clear k3_
    refine Do.cond [1,3,5,6] rfl (fun g1 => ?_) (fun g1 => ?_) <;> simp [go_sem] at g1 ⊢
    · exact absurd hxk g1
    · refine Do.skip ?_
      simp [go_sem]
      apply k2_; clear k2_
      refine Do.seqk fun _ k4_ => ?_
      refine Do.region [3,5,6,9,10] true ?_
      simp [go_sem]
      repeat (refine And.intro (by first | omega | (intros; omega) | (intros; exact And.intro (by assumption) (by omega)) | grind) ?_)
      refine DoL.call true 303 rfl rfl rfl rfl (by first | exact trivial | omega | (simp; done) | (simp; omega)) (hT) rfl (by first | exact .inl rfl | exact .inr rfl) rfl ?_
      simp [go_sem]
      repeat (refine And.intro (by first | omega | (intros; omega) | (intros; exact And.intro (by assumption) (by omega)) | grind) ?_)
      apply k4_; clear k4_
      refine Do.seqk fun _ k5_ => ?_
      refine Do.region [3,6,10,11] true ?_
      simp [go_sem]
      repeat (refine And.intro (by first | omega | (intros; omega) | (intros; exact And.intro (by assumption) (by omega)) | grind) ?_)
      refine DoL.call true 404 rfl rfl rfl rfl (by first | exact trivial | omega | (simp; done) | (simp; omega)) (hFr) rfl (by first | exact .inl rfl | exact .inr rfl) rfl ?_
      simp [go_sem]
      repeat (refine And.intro (by first | omega | (intros; omega) | (intros; exact And.intro (by assumption) (by omega)) | grind) ?_)
      apply k5_; clear k5_
      refine Do.seqk fun _ k6_ => ?_
      refine Do.seqk fun _ k7_ => ?_
      refine Do.region [6,10,11,30] true ?_
      simp [go_sem]
      repeat (refine And.intro (by first | omega | (intros; omega) | (intros; exact And.intro (by assumption) (by omega)) | grind) ?_)
      refine DoL.call true 503 rfl rfl rfl rfl (by first | exact trivial | omega | (simp; done) | (simp; omega)) (hIn) rfl (by first | exact .inl rfl | exact .inr rfl) rfl ?_
      simp [go_sem]
      repeat (refine And.intro (by first | omega | (intros; omega) | (intros; exact And.intro (by assumption) (by omega)) | grind) ?_)
      apply k7_; clear k7_
      refine Do.cond [6,10,11] rfl (fun g2 => ?_) (fun g2 => ?_) <;> simp [go_sem] at g2 ⊢
      refine Do.seqk fun _ k8_ => ?_
      refine Do.region [6,7,8] true ?_
      simp [go_sem]
      repeat (refine And.intro (by first | omega | (intros; omega) | (intros; exact And.intro (by assumption) (by omega)) | grind) ?_)
      apply k8_; clear k8_
      refine Do.ret ?_
      simp [endQ, rets, ret1, go_sem]
      repeat (refine And.intro (by first | omega | (intros; omega) | (intros; exact And.intro (by assumption) (by omega)) | grind) ?_)
      exact TLe.t (.cons (PLe.flw (ret_zw rfl)) (.cons (PLe.refl _) (.cons (PLe.refl _) .nil)))
theorem RIntegral_other {G : Gl} {f p r : Int} {x : Fla} (hx : Rt x) (hk : x.k ≠ 1) : Does Tryz.prog G 31 [Fm f p, .c (.i .i64 r), Fl x.k x.n x.e x.m] (.t [(rcanon x.flt).pw, .c (.i .i64 0), .c (.b true)]) := by
  have hlen := hx.len
  have hN := @Canonical_new G x.k x.e x.n x.m (by omega) hx.ws hx.md
  have hN : Does Tryz.prog G 53 [Fl x.k x.n x.e x.m] (.v (rcanon x.flt).pw) := hN
  generalize rcanon x.flt = z at *
  refine Does.of (nt := 34) Tryz.func31 rfl rfl rfl (by simp) ?_
  simp only [argTm, PV.ext, Ce.ext]
  refine Do.seqk fun _ k1_ => ?_
  refine Do.region [1,3,5,6] true ?_
  simp [go_sem]
  apply k1_; clear k1_
  refine Do.seqk fun _ k2_ => ?_
  refine Do.seqk fun _ k3_ => ?_
  refine Do.region [1,3,5,6,14] true ?_
  simp [go_sem]
  repeat (refine And.intro (by first | omega | (intros; omega) | (intros; exact And.intro (by assumption) (by omega)) | grind) ?_)
  apply k3_; clear k3_
  refine Do.cond [1,3,5,6] rfl (fun g1 => ?_) (fun g1 => ?_) <;> simp [go_sem] at g1 ⊢
  · refine Do.seqk fun _ k4_ => ?_
    refine Do.region [6,7,8] true ?_
    simp [go_sem]
    repeat (refine And.intro (by first | omega | (intros; omega) | (intros; exact And.intro (by assumption) (by omega)) | grind) ?_)
    refine DoL.call true 202 rfl rfl rfl rfl (by first | exact trivial | omega | (simp; done) | (simp; omega)) (hN) rfl (by first | exact .inl rfl | exact .inr rfl) rfl ?_
    simp [go_sem]
    repeat (refine And.intro (by first | omega | (intros; omega) | (intros; exact And.intro (by assumption) (by omega)) | grind) ?_)
    apply k4_; clear k4_
    refine Do.ret ?_
    simp [endQ, rets, ret1, go_sem]
    repeat (refine And.intro (by first | omega | (intros; omega) | (intros; exact And.intro (by assumption) (by omega)) | grind) ?_)
    exact TLe.refl _
  · exact absurd g1 hk
section
variable {f p r : Int} {x : Fla} {a : Flt}
theorem Integral_other (hx : x.Ok) (he : argsC f p f p r false x = 0) (ha : (holdsP f p x.flt).1 = a) (hk : a.k ≠ 1) : Does Tryz.prog Gv 30 [Fm f p, .c (.i .i64 r), Fl x.k x.n x.e x.m] (.t [a.pv, .c (.i .i64 0), .c (.i .i64 0)]) := by
  have hA := @cargs_does f p f p r false x hx
  rw [if_pos he, he, ha] at hA
  refine Does.of (nt := 52) Tryz.func30 rfl rfl rfl (by simp) ?_
  simp only [argTm, PV.ext, Ce.ext]
  refine Do.seqk fun _ k1_ => ?_
  refine Do.region [1,3,5,6] true ?_
  simp [go_sem]
  apply k1_; clear k1_
  refine Do.seqk fun _ k2_ => ?_
  refine Do.region [1,3,5,6,9] true ?_
  simp [go_sem]
  repeat (refine And.intro (by first | omega | (intros; omega) | (intros; exact And.intro (by assumption) (by omega)) | grind) ?_)
  refine DoL.call true 105 rfl rfl rfl rfl (by first | exact trivial | omega | (simp; done) | (simp; omega)) (hA) rfl (by first | exact .inl rfl | exact .inr rfl) rfl ?_
  simp [go_sem]
  repeat (refine And.intro (by first | omega | (intros; omega) | (intros; exact And.intro (by assumption) (by omega)) | grind) ?_)
  apply k2_; clear k2_
  refine Do.seqk fun _ k3_ => ?_
  refine Do.seqk fun _ k4_ => ?_
  refine Do.region [1,3,5,6,9,28] true ?_
  simp [go_sem]
  repeat (refine And.intro (by first | omega | (intros; omega) | (intros; exact And.intro (by assumption) (by omega)) | grind) ?_)
  apply k4_; clear k4_
  refine Do.cond [1,3,5,6,9] rfl (fun g1 => ?_) (fun g1 => ?_) <;> simp [go_sem] at g1 ⊢
  · refine Do.seqk fun _ k5_ => ?_
    refine Do.region [6,7,8] true ?_
    simp [go_sem]
    repeat (refine And.intro (by first | omega | (intros; omega) | (intros; exact And.intro (by assumption) (by omega)) | grind) ?_)
    apply k5_; clear k5_
    refine Do.ret ?_
    simp [endQ, rets, ret1, go_sem]
    repeat (refine And.intro (by first | omega | (intros; omega) | (intros; exact And.intro (by assumption) (by omega)) | grind) ?_)
    exact TLe.refl _
  · exact absurd g1 hk
theorem Integral_does (hx : x.Ok) (he : argsC f p f p r false x = 0) (ha : (holdsP f p x.flt).1 = a) (hk : a.k = 1) (hok : (Nu.mk a.n a.v a.e).Ok) (hb : bl a.v + a.e.toNat ≤ 100000) :
    (inP f p (fromP (sgn a.n (wholeP r ⟨a.n, a.v, a.e⟩).1) a.n) = true → Does Tryz.prog Gv 30 [Fm f p, .c (.i .i64 r), Fl x.k x.n x.e x.m] (.t [(fromP (sgn a.n (wholeP r ⟨a.n, a.v, a.e⟩).1) a.n).pv, .c (.i .i64 (if (wholeP r ⟨a.n, a.v, a.e⟩).2 then 0 else 1)), .c (.i .i64 0)])) ∧
    (inP f p (fromP (sgn a.n (wholeP r ⟨a.n, a.v, a.e⟩).1) a.n) = false → Does Tryz.prog Gv 30 [Fm f p, .c (.i .i64 r), Fl x.k x.n x.e x.m] (.t [Flt.pv ⟨0, false, 0, 0⟩, .c (.i .i64 0), .c (.i .i64 4)])) := by
  have hA := @cargs_does f p f p r false x hx
  obtain ⟨h1, h2, h3, h4, h5, h6, h7⟩ := argsC_zero he
  rw [if_pos he, he, ha] at hA
  have hW := @WholeN_does r h2 h3 ⟨a.n, a.v, a.e⟩ hok
  have hwb := wholeP_bl r ⟨a.n, a.v, a.e⟩
  simp only [] at hwb
  have hsb : bl (sgn a.n (wholeP r ⟨a.n, a.v, a.e⟩).1).natAbs ≤ 1000000 := by rw [sgn_abs]; omega
  have hI := @integral_does f p h5 (sgn a.n (wholeP r ⟨a.n, a.v, a.e⟩).1) a.n hsb
  obtain ⟨o1, o2⟩ := integral_ok h5 (sgn a.n (wholeP r ⟨a.n, a.v, a.e⟩).1) a.n
  have hFl := @flag_does20 (wholeP r ⟨a.n, a.v, a.e⟩).2
  rw [o1] at hI
  simp only [] at hW
  generalize sgn a.n (wholeP r ⟨a.n, a.v, a.e⟩).1 = Z at *
  generalize (if (wholeP r ⟨a.n, a.v, a.e⟩).2 = true then (0 : Int) else 1) = fl at *
  generalize (wholeP r ⟨a.n, a.v, a.e⟩).2 = W at *
  refine ⟨fun hi => ?_, fun hi => ?_⟩
  · rw [hi, o2 hi] at hI
    generalize fromP Z a.n = y at *
    refine Does.of (nt := 52) Tryz.func30 rfl rfl rfl (by simp) ?_
    simp only [argTm, PV.ext, Ce.ext]
    refine Do.seqk fun _ k1_ => ?_
    refine Do.region [1,3,5,6] true ?_
    simp [go_sem]
    apply k1_; clear k1_
    refine Do.seqk fun _ k2_ => ?_
    refine Do.region [1,3,5,6,9] true ?_
    simp [go_sem]
    repeat (refine And.intro (by first | omega | (intros; omega) | (intros; exact And.intro (by assumption) (by omega)) | grind) ?_)
    refine DoL.call true 105 rfl rfl rfl rfl (by first | exact trivial | omega | (simp; done) | (simp; omega)) (hA) rfl (by first | exact .inl rfl | exact .inr rfl) rfl ?_
    simp [go_sem]
    repeat (refine And.intro (by first | omega | (intros; omega) | (intros; exact And.intro (by assumption) (by omega)) | grind) ?_)
    apply k2_; clear k2_
    refine Do.seqk fun _ k3_ => ?_
    refine Do.seqk fun _ k4_ => ?_
    refine Do.region [1,3,5,6,9,28] true ?_
    simp [go_sem]
    repeat (refine And.intro (by first | omega | (intros; omega) | (intros; exact And.intro (by assumption) (by omega)) | grind) ?_)
    apply k4_; clear k4_
    refine Do.cond [1,3,5,6,9] rfl (fun g1 => ?_) (fun g1 => ?_) <;> simp [go_sem] at g1 ⊢
    · exact absurd hk g1
    · refine Do.skip ?_
      simp [go_sem]
      apply k3_; clear k3_
      refine Do.seqk fun _ k5_ => ?_
      refine Do.region [3,5,6,10,11] true ?_
      simp [go_sem]
      repeat (refine And.intro (by first | omega | (intros; omega) | (intros; exact And.intro (by assumption) (by omega)) | grind) ?_)
      refine DoL.call true 402 rfl rfl rfl rfl (by first | exact trivial | omega | (simp; done) | (simp; omega)) (Of_does) rfl (by first | exact .inl rfl | exact .inr rfl) rfl ?_
      simp [go_sem]
      refine DoL.call true 404 rfl rfl rfl rfl (by first | exact trivial | omega | (simp; done) | (simp; omega)) (hW) rfl (by first | exact .inl rfl | exact .inr rfl) rfl ?_
      simp [go_sem]
      repeat (refine And.intro (by first | omega | (intros; omega) | (intros; exact And.intro (by assumption) (by omega)) | grind) ?_)
      apply k5_; clear k5_
      refine Do.seqk fun _ k6_ => ?_
      refine Do.region [6,11,12,13] true ?_
      simp [go_sem]
      repeat (refine And.intro (by first | omega | (intros; omega) | (intros; exact And.intro (by assumption) (by omega)) | grind) ?_)
      refine DoL.call true 505 rfl rfl rfl rfl (by first | exact trivial | omega | (simp; done) | (simp; omega)) (hI) rfl (by first | exact .inl rfl | exact .inr rfl) rfl ?_
      simp [go_sem]
      repeat (refine And.intro (by first | omega | (intros; omega) | (intros; exact And.intro (by assumption) (by omega)) | grind) ?_)
      apply k6_; clear k6_
      refine Do.seqk fun _ k7_ => ?_
      refine Do.seqk fun _ k8_ => ?_
      refine Do.region [6,11,12,47] true ?_
      simp [go_sem]
      repeat (refine And.intro (by first | omega | (intros; omega) | (intros; exact And.intro (by assumption) (by omega)) | grind) ?_)
      apply k8_; clear k8_
      refine Do.cond [6,11,12] rfl (fun g2 => ?_) (fun g2 => ?_) <;> simp [go_sem] at g2 ⊢
      refine Do.skip ?_
      simp [go_sem]
      apply k7_; clear k7_
      refine Do.seqk fun _ k9_ => ?_
      refine Do.draw [6,7,8] true (by kernel_rfl) ?_
      simp [go_sem]
      repeat (refine And.intro (by first | omega | (intros; omega) | (intros; exact And.intro (by assumption) (by omega)) | kernel_rfl | grind) ?_)
      refine DoLD.call true 803 rfl rfl rfl rfl (by first | exact trivial | omega | (simp; done) | (simp; omega)) (hFl) rfl (by first | exact .inl rfl | exact .inr rfl) rfl ?_
      simp [go_sem]
      repeat (refine And.intro (by first | omega | (intros; omega) | (intros; exact And.intro (by assumption) (by omega)) | kernel_rfl | grind) ?_)
      try (refine And.intro (by kernel_rfl) ?_)
      apply k9_; clear k9_
      refine Do.ret ?_
      simp [endQ, rets, ret1, go_sem]
      repeat (refine And.intro (by first | omega | (intros; omega) | (intros; exact And.intro (by assumption) (by omega)) | grind) ?_)
      exact TLe.refl _
  · rw [hi] at hI
    generalize (Nu.round ⟨decide (Z < 0), Z.natAbs, 0⟩ f p 0 a.n).1 = y at *
    refine Does.of (nt := 52) Tryz.func30 rfl rfl rfl (by simp) ?_
    simp only [argTm, PV.ext, Ce.ext]
    refine Do.seqk fun _ k1_ => ?_
    refine Do.region [1,3,5,6] true ?_
    simp [go_sem]
    apply k1_; clear k1_
    refine Do.seqk fun _ k2_ => ?_
    refine Do.region [1,3,5,6,9] true ?_
    simp [go_sem]
    repeat (refine And.intro (by first | omega | (intros; omega) | (intros; exact And.intro (by assumption) (by omega)) | grind) ?_)
    refine DoL.call true 105 rfl rfl rfl rfl (by first | exact trivial | omega | (simp; done) | (simp; omega)) (hA) rfl (by first | exact .inl rfl | exact .inr rfl) rfl ?_
    simp [go_sem]
    repeat (refine And.intro (by first | omega | (intros; omega) | (intros; exact And.intro (by assumption) (by omega)) | grind) ?_)
    apply k2_; clear k2_
    refine Do.seqk fun _ k3_ => ?_
    refine Do.seqk fun _ k4_ => ?_
    refine Do.region [1,3,5,6,9,28] true ?_
    simp [go_sem]
    repeat (refine And.intro (by first | omega | (intros; omega) | (intros; exact And.intro (by assumption) (by omega)) | grind) ?_)
    apply k4_; clear k4_
    refine Do.cond [1,3,5,6,9] rfl (fun g1 => ?_) (fun g1 => ?_) <;> simp [go_sem] at g1 ⊢
    · exact absurd hk g1
    · refine Do.skip ?_
      simp [go_sem]
      apply k3_; clear k3_
      refine Do.seqk fun _ k5_ => ?_
      refine Do.region [3,5,6,10,11] true ?_
      simp [go_sem]
      repeat (refine And.intro (by first | omega | (intros; omega) | (intros; exact And.intro (by assumption) (by omega)) | grind) ?_)
      refine DoL.call true 402 rfl rfl rfl rfl (by first | exact trivial | omega | (simp; done) | (simp; omega)) (Of_does) rfl (by first | exact .inl rfl | exact .inr rfl) rfl ?_
      simp [go_sem]
      refine DoL.call true 404 rfl rfl rfl rfl (by first | exact trivial | omega | (simp; done) | (simp; omega)) (hW) rfl (by first | exact .inl rfl | exact .inr rfl) rfl ?_
      simp [go_sem]
      repeat (refine And.intro (by first | omega | (intros; omega) | (intros; exact And.intro (by assumption) (by omega)) | grind) ?_)
      apply k5_; clear k5_
      refine Do.seqk fun _ k6_ => ?_
      refine Do.region [6,11,12,13] true ?_
      simp [go_sem]
      repeat (refine And.intro (by first | omega | (intros; omega) | (intros; exact And.intro (by assumption) (by omega)) | grind) ?_)
      refine DoL.call true 505 rfl rfl rfl rfl (by first | exact trivial | omega | (simp; done) | (simp; omega)) (hI) rfl (by first | exact .inl rfl | exact .inr rfl) rfl ?_
      simp [go_sem]
      repeat (refine And.intro (by first | omega | (intros; omega) | (intros; exact And.intro (by assumption) (by omega)) | grind) ?_)
      apply k6_; clear k6_
      refine Do.seqk fun _ k7_ => ?_
      refine Do.seqk fun _ k8_ => ?_
      refine Do.region [6,11,12,47] true ?_
      simp [go_sem]
      repeat (refine And.intro (by first | omega | (intros; omega) | (intros; exact And.intro (by assumption) (by omega)) | grind) ?_)
      apply k8_; clear k8_
      refine Do.cond [6,11,12] rfl (fun g2 => ?_) (fun g2 => ?_) <;> simp [go_sem] at g2 ⊢
      refine Do.seqk fun _ k9_ => ?_
      refine Do.region [6,7,8] true ?_
      simp [go_sem]
      repeat (refine And.intro (by first | omega | (intros; omega) | (intros; exact And.intro (by assumption) (by omega)) | grind) ?_)
      apply k9_; clear k9_
      refine Do.ret ?_
      simp [endQ, rets, ret1, go_sem]
      repeat (refine And.intro (by first | omega | (intros; omega) | (intros; exact And.intro (by assumption) (by omega)) | grind) ?_)
      exact TLe.t (.cons (PLe.flt (ret_z rfl)) (.cons (PLe.refl _) (.cons (PLe.refl _) .nil)))
end
theorem ConvertIntegrals_does {f p r : Int} {x : Fla} (hx : Ws x.m) (ex : I64 x.e) : Does Tryz.prog Gv 6 [Fm f p, .c (.i .i64 r), Fl x.k x.n x.e x.m] (.v (.c (.b true))) := by
  have hS : Does Tryz.prog Gv 10 [.s false [x.cs]] (.v (.c (.b (shortP [x])))) := Short15_does (l := [x]) (by simp)
  cases hs : shortP [x] with
  | false =>
    rw [hs] at hS
    refine Does.of (nt := 65) Tryz.func6 rfl rfl rfl (by simp) ?_
    simp only [argTm, PV.ext, Ce.ext]
    refine Do.seqk fun _ k1_ => ?_
    refine Do.region [1,3,5] true ?_
    simp [go_sem]
    apply k1_; clear k1_
    refine Do.seqk fun _ k2_ => ?_
    refine Do.seqk fun _ k3_ => ?_
    refine Do.region [1,3,5,17] true ?_
    simp [go_sem]
    repeat (refine And.intro (by first | omega | (intros; omega) | (intros; exact And.intro (by assumption) (by omega)) | grind) ?_)
    refine DoL.sealS true 102 101 rfl ?_
    simp [go_sem]
    refine DoL.call true 103 rfl rfl rfl rfl (by first | exact trivial | omega | (simp; done) | (simp; omega)) (hS) rfl (by first | exact .inl rfl | exact .inr rfl) rfl ?_
    simp [go_sem]
    repeat (refine And.intro (by first | omega | (intros; omega) | (intros; exact And.intro (by assumption) (by omega)) | grind) ?_)
    apply k3_; clear k3_
    refine Do.cond [1,3,5] rfl (fun h => ?_) (fun h => ?_) <;> simp [go_sem] at h ⊢
    refine Do.seqk fun _ k4_ => ?_
    refine Do.region [6] true ?_
    simp [go_sem]
    refine DoL.call true 201 rfl rfl rfl rfl (by first | exact trivial | omega | (simp; done) | (simp; omega)) (awake20_does) rfl (by first | exact .inl rfl | exact .inr rfl) rfl ?_
    simp [go_sem]
    apply k4_; clear k4_
    refine Do.ret ?_
    simp [endQ, rets, ret1, go_sem]
    repeat (refine And.intro (by first | omega | (intros; omega) | (intros; exact And.intro (by assumption) (by omega)) | grind) ?_)
    exact TLe.refl _
  | true =>
    rw [hs] at hS
    have hsx : x.m.length ≤ 40 := by simpa [shortP] using hs
    have ox : x.Ok := ⟨by simp [Sh]; omega, hx, ex⟩
    have hA : Does Tryz.prog Gv 13 [Fm f p, .c (.i .i64 r), .s false [x.cs]] (.int .i64 (argsE f p r false [x])) := @KArgs_does Gv f p r [x] (by simp) (by simp [ox])
    by_cases he : argsE f p r false [x] = 0
    · rw [he] at hA
      have hc := he
      rw [← argsC_same] at hc
      obtain ⟨h1, h2, h3, h4, h5, h6, h7⟩ := argsC_zero hc
      have hrt := held_rt (f := f) (p := p) (l := [x]) (by simpa [allHold] using h7) (by simp [ox]) (by simpa using h1) x (by simp)
      have hra := (held_rcanon h7).1
      obtain ⟨f1, f2⟩ := held_fine20 h5 h7
      have hbd := holdsP_bound h5 h7
      have hsb := held_fin20 h7
      obtain ⟨b1, b2, b3, b4⟩ := fmOk_spec h5
      obtain ⟨b5, b6⟩ := gOfE_le b1 b2
      obtain ⟨a, ha⟩ : ∃ a, (holdsP f p x.flt).1 = a := ⟨_, rfl⟩
      rw [ha] at hra f1 f2 hbd hsb
      by_cases hk : a.k = 1
      · have hbb := hbd hk
        have hsb := hsb hk
        have hok : (Nu.mk a.n a.v a.e).Ok := ⟨hbb.1, by show a.e + bl a.v ≤ 4194304; omega⟩
        obtain ⟨p1, p2⟩ := @Integral_does f p r x a ox hc ha hk hok (by omega)
        obtain ⟨r1, r2⟩ := @RIntegral_does Gv f p r h5 h2 h3 x hrt a hra hk (by omega)
        have hfl : ((if (wholeP r ⟨a.n, a.v, a.e⟩).2 then 0 else 1 : Int)) = (if (wholeP r ⟨a.n, a.v, a.e⟩).2 then 0 else 1 : Int) := rfl
        generalize hZe : sgn a.n (wholeP r ⟨a.n, a.v, a.e⟩).1 = Z at *
        generalize (if (wholeP r ⟨a.n, a.v, a.e⟩).2 = true then (0 : Int) else 1) = fl at *
        cases hi : inP f p (fromP Z a.n) with
        | true =>
          have p1 := p1 hi
          have r1 := r1 hi
          obtain ⟨g1, g2⟩ := fromP_fine h5 hi
          have hF := @Fits_same Gv (fromP Z a.n) fl g1 g2
          generalize fromP Z a.n = y at *
          refine Does.of (nt := 65) Tryz.func6 rfl rfl rfl (by simp) ?_
          simp only [argTm, PV.ext, Ce.ext]
          refine Do.seqk fun _ k1_ => ?_
          refine Do.region [1,3,5] true ?_
          simp [go_sem]
          apply k1_; clear k1_
          refine Do.seqk fun _ k2_ => ?_
          refine Do.seqk fun _ k3_ => ?_
          refine Do.region [1,3,5,17] true ?_
          simp [go_sem]
          repeat (refine And.intro (by first | omega | (intros; omega) | (intros; exact And.intro (by assumption) (by omega)) | grind) ?_)
          refine DoL.sealS true 102 101 rfl ?_
          simp [go_sem]
          refine DoL.call true 103 rfl rfl rfl rfl (by first | exact trivial | omega | (simp; done) | (simp; omega)) (hS) rfl (by first | exact .inl rfl | exact .inr rfl) rfl ?_
          simp [go_sem]
          repeat (refine And.intro (by first | omega | (intros; omega) | (intros; exact And.intro (by assumption) (by omega)) | grind) ?_)
          apply k3_; clear k3_
          refine Do.cond [1,3,5] rfl (fun h => ?_) (fun h => ?_) <;> simp [go_sem] at h ⊢
          refine Do.skip ?_
          simp [go_sem]
          apply k2_; clear k2_
          refine Do.seqk fun _ k4_ => ?_
          refine Do.region [1,3,5,7,8,9] true ?_
          simp [go_sem]
          repeat (refine And.intro (by first | omega | (intros; omega) | (intros; exact And.intro (by assumption) (by omega)) | grind) ?_)
          refine DoL.call true 304 rfl rfl rfl rfl (by first | exact trivial | omega | (simp; done) | (simp; omega)) (p1) rfl (by first | exact .inl rfl | exact .inr rfl) rfl ?_
          simp [go_sem]
          repeat (refine And.intro (by first | omega | (intros; omega) | (intros; exact And.intro (by assumption) (by omega)) | grind) ?_)
          apply k4_; clear k4_
          refine Do.seqk fun _ k5_ => ?_
          refine Do.region [1,3,5,7,8,9,10] true ?_
          simp [go_sem]
          repeat (refine And.intro (by first | omega | (intros; omega) | (intros; exact And.intro (by assumption) (by omega)) | grind) ?_)
          refine DoL.sealS true 404 403 rfl ?_
          simp [go_sem]
          refine DoL.call true 405 rfl rfl rfl rfl (by first | exact trivial | omega | (simp; done) | (simp; omega)) (hA) rfl (by first | exact .inl rfl | exact .inr rfl) rfl ?_
          simp [go_sem]
          apply k5_; clear k5_
          refine Do.seqk fun _ k6_ => ?_
          refine Do.seqk fun _ k7_ => ?_
          refine Do.region [1,3,5,7,8,9,10,33] true ?_
          simp [go_sem]
          apply k7_; clear k7_
          refine Do.cond [1,3,5,7,8,9,10] rfl (fun h => ?_) (fun h => ?_) <;> simp [go_sem] at h ⊢
          refine Do.skip ?_
          simp [go_sem]
          apply k6_; clear k6_
          refine Do.seqk fun _ k8_ => ?_
          refine Do.draw [7,8,9,10,11,12,13] true (by kernel_rfl) ?_
          simp [go_sem]
          repeat (refine And.intro (by first | omega | (intros; omega) | (intros; exact And.intro (by assumption) (by omega)) | kernel_rfl | grind) ?_)
          refine DoLD.call true 702 rfl rfl rfl rfl (by first | exact trivial | omega | (simp; done) | (simp; omega)) (Fmt_does) rfl (by first | exact .inl rfl | exact .inr rfl) rfl ?_
          simp [go_sem]
          repeat (refine And.intro (by first | omega | (intros; omega) | (intros; exact And.intro (by assumption) (by omega)) | kernel_rfl | grind) ?_)
          refine DoLD.call true 705 rfl rfl rfl rfl (by first | exact trivial | omega | (simp; done) | (simp; omega)) (Their_does) rfl (by first | exact .inl rfl | exact .inr rfl) rfl ?_
          simp [go_sem]
          refine DoLD.call true 706 rfl rfl rfl rfl (by first | exact trivial | omega | (simp; done) | (simp; omega)) (r1) rfl (by first | exact .inl rfl | exact .inr rfl) rfl ?_
          simp [go_sem]
          repeat (refine And.intro (by first | omega | (intros; omega) | (intros; exact And.intro (by assumption) (by omega)) | kernel_rfl | grind) ?_)
          try (refine And.intro (by kernel_rfl) ?_)
          apply k8_; clear k8_
          refine Do.seqk fun _ k9_ => ?_
          refine Do.seqk fun _ k10_ => ?_
          refine Do.region [7,8,9,10,11,12,54] true ?_
          simp [go_sem]
          repeat (refine And.intro (by first | omega | (intros; omega) | (intros; exact And.intro (by assumption) (by omega)) | grind) ?_)
          apply k10_; clear k10_
          refine Do.cond [7,8,9,10,11,12] rfl (fun h => ?_) (fun h => ?_) <;> simp [go_sem] at h ⊢
          refine Do.skip ?_
          simp [go_sem]
          apply k9_; clear k9_
          refine Do.seqk fun _ k11_ => ?_
          refine Do.region [6] true ?_
          simp [go_sem]
          repeat (refine And.intro (by first | omega | (intros; omega) | (intros; exact And.intro (by assumption) (by omega)) | grind) ?_)
          refine DoL.call true 1007 rfl rfl rfl rfl (by first | exact trivial | omega | (simp; done) | (simp; omega)) (hF) rfl (by first | exact .inl rfl | exact .inr rfl) rfl ?_
          simp [go_sem]
          refine DoL.callg true 1009 rfl rfl rfl rfl rfl (by simp [go_sem] <;> omega) (fun _ => awake20_does) rfl (by first | exact .inl rfl | exact .inr rfl) rfl ?_
          simp [go_sem]
          apply k11_; clear k11_
          refine Do.ret ?_
          simp [endQ, rets, ret1, go_sem]
          repeat (refine And.intro (by first | omega | (intros; omega) | (intros; exact And.intro (by assumption) (by omega)) | grind) ?_)
          exact TLe.refl _
        | false =>
          have p2 := p2 hi
          have r2 := r2 hi
          have hF := @Fits_does Gv ⟨0, false, 0, nat 0⟩ ⟨0, false, 0, nat 0⟩ 0 4 0 4 (by rw [nat_zero]; simp) (nat_ws _) (by rw [nat_zero]; simp) (nat_ws _) (by constructor <;> simp)
          rw [show fitsP ⟨0, false, 0, nat 0⟩ 0 4 ⟨0, false, 0, nat 0⟩ 0 4 = true by rw [nat_zero]; rfl] at hF
          have hF : Does Tryz.prog Gv 16 [Flt.pv ⟨0, false, 0, 0⟩, .c (.i .i64 0), .c (.i .i64 4), Flt.pv ⟨0, false, 0, 0⟩, .c (.i .i64 0), .c (.i .i64 4)] (.v (.c (.b true))) := hF
          refine Does.of (nt := 65) Tryz.func6 rfl rfl rfl (by simp) ?_
          simp only [argTm, PV.ext, Ce.ext]
          refine Do.seqk fun _ k1_ => ?_
          refine Do.region [1,3,5] true ?_
          simp [go_sem]
          apply k1_; clear k1_
          refine Do.seqk fun _ k2_ => ?_
          refine Do.seqk fun _ k3_ => ?_
          refine Do.region [1,3,5,17] true ?_
          simp [go_sem]
          repeat (refine And.intro (by first | omega | (intros; omega) | (intros; exact And.intro (by assumption) (by omega)) | grind) ?_)
          refine DoL.sealS true 102 101 rfl ?_
          simp [go_sem]
          refine DoL.call true 103 rfl rfl rfl rfl (by first | exact trivial | omega | (simp; done) | (simp; omega)) (hS) rfl (by first | exact .inl rfl | exact .inr rfl) rfl ?_
          simp [go_sem]
          repeat (refine And.intro (by first | omega | (intros; omega) | (intros; exact And.intro (by assumption) (by omega)) | grind) ?_)
          apply k3_; clear k3_
          refine Do.cond [1,3,5] rfl (fun h => ?_) (fun h => ?_) <;> simp [go_sem] at h ⊢
          refine Do.skip ?_
          simp [go_sem]
          apply k2_; clear k2_
          refine Do.seqk fun _ k4_ => ?_
          refine Do.region [1,3,5,7,8,9] true ?_
          simp [go_sem]
          repeat (refine And.intro (by first | omega | (intros; omega) | (intros; exact And.intro (by assumption) (by omega)) | grind) ?_)
          refine DoL.call true 304 rfl rfl rfl rfl (by first | exact trivial | omega | (simp; done) | (simp; omega)) (p2) rfl (by first | exact .inl rfl | exact .inr rfl) rfl ?_
          simp [go_sem]
          repeat (refine And.intro (by first | omega | (intros; omega) | (intros; exact And.intro (by assumption) (by omega)) | grind) ?_)
          apply k4_; clear k4_
          refine Do.seqk fun _ k5_ => ?_
          refine Do.region [1,3,5,7,8,9,10] true ?_
          simp [go_sem]
          repeat (refine And.intro (by first | omega | (intros; omega) | (intros; exact And.intro (by assumption) (by omega)) | grind) ?_)
          refine DoL.sealS true 404 403 rfl ?_
          simp [go_sem]
          refine DoL.call true 405 rfl rfl rfl rfl (by first | exact trivial | omega | (simp; done) | (simp; omega)) (hA) rfl (by first | exact .inl rfl | exact .inr rfl) rfl ?_
          simp [go_sem]
          apply k5_; clear k5_
          refine Do.seqk fun _ k6_ => ?_
          refine Do.seqk fun _ k7_ => ?_
          refine Do.region [1,3,5,7,8,9,10,33] true ?_
          simp [go_sem]
          apply k7_; clear k7_
          refine Do.cond [1,3,5,7,8,9,10] rfl (fun h => ?_) (fun h => ?_) <;> simp [go_sem] at h ⊢
          refine Do.skip ?_
          simp [go_sem]
          apply k6_; clear k6_
          refine Do.seqk fun _ k8_ => ?_
          refine Do.draw [7,8,9,10,11,12,13] true (by kernel_rfl) ?_
          simp [go_sem]
          repeat (refine And.intro (by first | omega | (intros; omega) | (intros; exact And.intro (by assumption) (by omega)) | kernel_rfl | grind) ?_)
          refine DoLD.call true 702 rfl rfl rfl rfl (by first | exact trivial | omega | (simp; done) | (simp; omega)) (Fmt_does) rfl (by first | exact .inl rfl | exact .inr rfl) rfl ?_
          simp [go_sem]
          repeat (refine And.intro (by first | omega | (intros; omega) | (intros; exact And.intro (by assumption) (by omega)) | kernel_rfl | grind) ?_)
          refine DoLD.call true 705 rfl rfl rfl rfl (by first | exact trivial | omega | (simp; done) | (simp; omega)) (Their_does) rfl (by first | exact .inl rfl | exact .inr rfl) rfl ?_
          simp [go_sem]
          refine DoLD.call true 706 rfl rfl rfl rfl (by first | exact trivial | omega | (simp; done) | (simp; omega)) (r2) rfl (by first | exact .inl rfl | exact .inr rfl) rfl ?_
          simp [go_sem]
          repeat (refine And.intro (by first | omega | (intros; omega) | (intros; exact And.intro (by assumption) (by omega)) | kernel_rfl | grind) ?_)
          try (refine And.intro (by kernel_rfl) ?_)
          apply k8_; clear k8_
          refine Do.seqk fun _ k9_ => ?_
          refine Do.seqk fun _ k10_ => ?_
          refine Do.region [7,8,9,10,11,12,54] true ?_
          simp [go_sem]
          repeat (refine And.intro (by first | omega | (intros; omega) | (intros; exact And.intro (by assumption) (by omega)) | grind) ?_)
          apply k10_; clear k10_
          refine Do.cond [7,8,9,10,11,12] rfl (fun h => ?_) (fun h => ?_) <;> simp [go_sem] at h ⊢
          refine Do.region [7,8,9,10,11,12] true ?_
          simp [go_sem]
          apply k9_; clear k9_
          refine Do.seqk fun _ k11_ => ?_
          refine Do.region [6] true ?_
          simp [go_sem]
          repeat (refine And.intro (by first | omega | (intros; omega) | (intros; exact And.intro (by assumption) (by omega)) | grind) ?_)
          refine DoL.call true 1007 rfl rfl rfl rfl (by first | exact trivial | omega | (simp; done) | (simp; omega)) (hF) rfl (by first | exact .inl rfl | exact .inr rfl) rfl ?_
          simp [go_sem]
          refine DoL.callg true 1009 rfl rfl rfl rfl rfl (by simp [go_sem] <;> omega) (fun _ => awake20_does) rfl (by first | exact .inl rfl | exact .inr rfl) rfl ?_
          simp [go_sem]
          apply k11_; clear k11_
          refine Do.ret ?_
          simp [endQ, rets, ret1, go_sem]
          repeat (refine And.intro (by first | omega | (intros; omega) | (intros; exact And.intro (by assumption) (by omega)) | grind) ?_)
          exact TLe.refl _
      · have p1 := @Integral_other f p r x a ox hc ha hk
        have r1 := @RIntegral_other Gv f p r x hrt (fun h => hk (by rw [← hra, rcanon_k]; exact h))
        rw [hra] at r1
        have hF := @Fits_same Gv a 0 f1 f2
        refine Does.of (nt := 65) Tryz.func6 rfl rfl rfl (by simp) ?_
        simp only [argTm, PV.ext, Ce.ext]
        refine Do.seqk fun _ k1_ => ?_
        refine Do.region [1,3,5] true ?_
        simp [go_sem]
        apply k1_; clear k1_
        refine Do.seqk fun _ k2_ => ?_
        refine Do.seqk fun _ k3_ => ?_
        refine Do.region [1,3,5,17] true ?_
        simp [go_sem]
        repeat (refine And.intro (by first | omega | (intros; omega) | (intros; exact And.intro (by assumption) (by omega)) | grind) ?_)
        refine DoL.sealS true 102 101 rfl ?_
        simp [go_sem]
        refine DoL.call true 103 rfl rfl rfl rfl (by first | exact trivial | omega | (simp; done) | (simp; omega)) (hS) rfl (by first | exact .inl rfl | exact .inr rfl) rfl ?_
        simp [go_sem]
        repeat (refine And.intro (by first | omega | (intros; omega) | (intros; exact And.intro (by assumption) (by omega)) | grind) ?_)
        apply k3_; clear k3_
        refine Do.cond [1,3,5] rfl (fun h => ?_) (fun h => ?_) <;> simp [go_sem] at h ⊢
        refine Do.skip ?_
        simp [go_sem]
        apply k2_; clear k2_
        refine Do.seqk fun _ k4_ => ?_
        refine Do.region [1,3,5,7,8,9] true ?_
        simp [go_sem]
        repeat (refine And.intro (by first | omega | (intros; omega) | (intros; exact And.intro (by assumption) (by omega)) | grind) ?_)
        refine DoL.call true 304 rfl rfl rfl rfl (by first | exact trivial | omega | (simp; done) | (simp; omega)) (p1) rfl (by first | exact .inl rfl | exact .inr rfl) rfl ?_
        simp [go_sem]
        repeat (refine And.intro (by first | omega | (intros; omega) | (intros; exact And.intro (by assumption) (by omega)) | grind) ?_)
        apply k4_; clear k4_
        refine Do.seqk fun _ k5_ => ?_
        refine Do.region [1,3,5,7,8,9,10] true ?_
        simp [go_sem]
        repeat (refine And.intro (by first | omega | (intros; omega) | (intros; exact And.intro (by assumption) (by omega)) | grind) ?_)
        refine DoL.sealS true 404 403 rfl ?_
        simp [go_sem]
        refine DoL.call true 405 rfl rfl rfl rfl (by first | exact trivial | omega | (simp; done) | (simp; omega)) (hA) rfl (by first | exact .inl rfl | exact .inr rfl) rfl ?_
        simp [go_sem]
        apply k5_; clear k5_
        refine Do.seqk fun _ k6_ => ?_
        refine Do.seqk fun _ k7_ => ?_
        refine Do.region [1,3,5,7,8,9,10,33] true ?_
        simp [go_sem]
        apply k7_; clear k7_
        refine Do.cond [1,3,5,7,8,9,10] rfl (fun h => ?_) (fun h => ?_) <;> simp [go_sem] at h ⊢
        refine Do.skip ?_
        simp [go_sem]
        apply k6_; clear k6_
        refine Do.seqk fun _ k8_ => ?_
        refine Do.draw [7,8,9,10,11,12,13] true (by kernel_rfl) ?_
        simp [go_sem]
        repeat (refine And.intro (by first | omega | (intros; omega) | (intros; exact And.intro (by assumption) (by omega)) | kernel_rfl | grind) ?_)
        refine DoLD.call true 702 rfl rfl rfl rfl (by first | exact trivial | omega | (simp; done) | (simp; omega)) (Fmt_does) rfl (by first | exact .inl rfl | exact .inr rfl) rfl ?_
        simp [go_sem]
        repeat (refine And.intro (by first | omega | (intros; omega) | (intros; exact And.intro (by assumption) (by omega)) | kernel_rfl | grind) ?_)
        refine DoLD.call true 705 rfl rfl rfl rfl (by first | exact trivial | omega | (simp; done) | (simp; omega)) (Their_does) rfl (by first | exact .inl rfl | exact .inr rfl) rfl ?_
        simp [go_sem]
        refine DoLD.call true 706 rfl rfl rfl rfl (by first | exact trivial | omega | (simp; done) | (simp; omega)) (r1) rfl (by first | exact .inl rfl | exact .inr rfl) rfl ?_
        simp [go_sem]
        repeat (refine And.intro (by first | omega | (intros; omega) | (intros; exact And.intro (by assumption) (by omega)) | kernel_rfl | grind) ?_)
        try (refine And.intro (by kernel_rfl) ?_)
        apply k8_; clear k8_
        refine Do.seqk fun _ k9_ => ?_
        refine Do.seqk fun _ k10_ => ?_
        refine Do.region [7,8,9,10,11,12,54] true ?_
        simp [go_sem]
        repeat (refine And.intro (by first | omega | (intros; omega) | (intros; exact And.intro (by assumption) (by omega)) | grind) ?_)
        apply k10_; clear k10_
        refine Do.cond [7,8,9,10,11,12] rfl (fun h => ?_) (fun h => ?_) <;> simp [go_sem] at h ⊢
        refine Do.skip ?_
        simp [go_sem]
        apply k9_; clear k9_
        refine Do.seqk fun _ k11_ => ?_
        refine Do.region [6] true ?_
        simp [go_sem]
        repeat (refine And.intro (by first | omega | (intros; omega) | (intros; exact And.intro (by assumption) (by omega)) | grind) ?_)
        refine DoL.call true 1007 rfl rfl rfl rfl (by first | exact trivial | omega | (simp; done) | (simp; omega)) (hF) rfl (by first | exact .inl rfl | exact .inr rfl) rfl ?_
        simp [go_sem]
        refine DoL.callg true 1009 rfl rfl rfl rfl rfl (by simp [go_sem] <;> omega) (fun _ => awake20_does) rfl (by first | exact .inl rfl | exact .inr rfl) rfl ?_
        simp [go_sem]
        apply k11_; clear k11_
        refine Do.ret ?_
        simp [endQ, rets, ret1, go_sem]
        repeat (refine And.intro (by first | omega | (intros; omega) | (intros; exact And.intro (by assumption) (by omega)) | grind) ?_)
        exact TLe.refl _
    · have hp := @Integral_err f p r x ox (by rw [argsC_same]; exact he)
      rw [argsC_same] at hp
      have hF := @Fits_none 0 0 false [] 0 (argsE f p r false [x]) ⟨rfl, rfl, rfl, rfl⟩ he (argsE f p r false [x])
      generalize argsE f p r false [x] = ae at *
      have hp : Does Tryz.prog Gv 30 [Fm f p, .c (.i .i64 r), Fl x.k x.n x.e x.m] (.t [Fl 0 false 0 (nat 0), .c (.i .i64 0), .c (.i .i64 ae)]) := hp
      rw [nat_zero] at hp
      refine Does.of (nt := 65) Tryz.func6 rfl rfl rfl (by simp) ?_
      simp only [argTm, PV.ext, Ce.ext]
      refine Do.seqk fun _ k1_ => ?_
      refine Do.region [1,3,5] true ?_
      simp [go_sem]
      apply k1_; clear k1_
      refine Do.seqk fun _ k2_ => ?_
      refine Do.seqk fun _ k3_ => ?_
      refine Do.region [1,3,5,17] true ?_
      simp [go_sem]
      repeat (refine And.intro (by first | omega | (intros; omega) | (intros; exact And.intro (by assumption) (by omega)) | grind) ?_)
      refine DoL.sealS true 102 101 rfl ?_
      simp [go_sem]
      refine DoL.call true 103 rfl rfl rfl rfl (by first | exact trivial | omega | (simp; done) | (simp; omega)) (hS) rfl (by first | exact .inl rfl | exact .inr rfl) rfl ?_
      simp [go_sem]
      repeat (refine And.intro (by first | omega | (intros; omega) | (intros; exact And.intro (by assumption) (by omega)) | grind) ?_)
      apply k3_; clear k3_
      refine Do.cond [1,3,5] rfl (fun h => ?_) (fun h => ?_) <;> simp [go_sem] at h ⊢
      refine Do.skip ?_
      simp [go_sem]
      apply k2_; clear k2_
      refine Do.seqk fun _ k4_ => ?_
      refine Do.region [1,3,5,7,8,9] true ?_
      simp [go_sem]
      repeat (refine And.intro (by first | omega | (intros; omega) | (intros; exact And.intro (by assumption) (by omega)) | grind) ?_)
      refine DoL.call true 304 rfl rfl rfl rfl (by first | exact trivial | omega | (simp; done) | (simp; omega)) (hp) rfl (by first | exact .inl rfl | exact .inr rfl) rfl ?_
      simp [go_sem]
      repeat (refine And.intro (by first | omega | (intros; omega) | (intros; exact And.intro (by assumption) (by omega)) | grind) ?_)
      apply k4_; clear k4_
      refine Do.seqk fun _ k5_ => ?_
      refine Do.region [1,3,5,7,8,9,10] true ?_
      simp [go_sem]
      repeat (refine And.intro (by first | omega | (intros; omega) | (intros; exact And.intro (by assumption) (by omega)) | grind) ?_)
      refine DoL.sealS true 404 403 rfl ?_
      simp [go_sem]
      refine DoL.call true 405 rfl rfl rfl rfl (by first | exact trivial | omega | (simp; done) | (simp; omega)) (hA) rfl (by first | exact .inl rfl | exact .inr rfl) rfl ?_
      simp [go_sem]
      apply k5_; clear k5_
      refine Do.seqk fun _ k6_ => ?_
      refine Do.seqk fun _ k7_ => ?_
      refine Do.region [1,3,5,7,8,9,10,33] true ?_
      simp [go_sem]
      apply k7_; clear k7_
      refine Do.cond [1,3,5,7,8,9,10] rfl (fun h => ?_) (fun h => ?_) <;> simp [go_sem] at h ⊢
      · refine Do.seqk fun _ k8_ => ?_
        refine Do.region [6] true ?_
        simp [go_sem]
        repeat (refine And.intro (by first | omega | (intros; omega) | (intros; exact And.intro (by assumption) (by omega)) | grind) ?_)
        refine DoL.call true 606 rfl rfl rfl rfl (by first | exact trivial | omega | (simp; done) | (simp; omega)) (hF) rfl (by first | exact .inl rfl | exact .inr rfl) rfl ?_
        simp [go_sem]
        refine DoL.callg true 608 rfl rfl rfl rfl rfl (by simp [go_sem] <;> omega) (fun _ => awake20_does) rfl (by first | exact .inl rfl | exact .inr rfl) rfl ?_
        simp [go_sem]
        apply k8_; clear k8_
        refine Do.ret ?_
        simp [endQ, rets, ret1, go_sem]
        repeat (refine And.intro (by first | omega | (intros; omega) | (intros; exact And.intro (by assumption) (by omega)) | grind) ?_)
        exact TLe.refl _
      · exact absurd h he
end Go.Proofs.YtokgalpflooegaaGreatDoor
/- The row of ConvertIntegrals. No condition. -/
namespace Go.Proofs.YtokgalpflooegaaGreatDoor
set_option linter.unusedVariables false
set_option linter.unusedSimpArgs false
open Go.ChangeShapes Go.WideShapes Go.ChangeAt Go.RowKit
set_option maxRecDepth 100000
namespace convertIntegrals
set_option maxRecDepth 100000 in
theorem lifted (os : Os) (started : os.Started) (H : Type) (enc : TypeId × Value → H) :
    ReturnsInHanded {} Tryz.checked os 6 .any (fun w args => (Rows.convertIntegralsSpec.pre enc Tryz.prog Tryz.f6 [] false w args ∧ laidMetH Tryz.prog laidL w) ∧ sizedMet enc Tryz.prog Tryz.f6 (OpenSpec.ofChange Rows.convertIntegralsSpec) false w args)
      (Rows.convertIntegralsSpec.post enc Tryz.prog Tryz.f6 false true false false) := by
  refine returnsInHanded_of_change_and (C := Tryz.checked) (X := fun w _ => laidMetH Tryz.prog laidL w) (fun _ _ _ hh h => h.of_heap hh) own started (by kernel_rfl) Tryz.func6
    (ChangeSpec.witness_shaped (enc := enc) (C := Tryz.checked) (os := os) (X := fun w _ => laidMetH Tryz.prog laidL w) false (World.doorLaid Tryz.prog doorN os) #[.agg #[.int .i64 0, .int .i64 0], .int .i64 0, .agg #[.int .i64 0, .bool false, .int .i64 0, .slice Option.none 0 0]] doorK rfl (World.shaped_of_RefB (by kernel_rfl) (by kernel_rfl)) (by kernel_rfl) (by kernel_rfl) (by kernel_rfl) (door_met os _)) ?_
  intro W base args ds gs before hval0 hW _ _ hL _
  have hval : ∀ (j : Nat) t v, Tryz.f6.params[j]? = some t → args[j]? = some v → Value.okWide Tryz.prog W .any base t v := hval0
  have hW' := hW
  obtain ⟨p, q, hA0, hV, rfl, hfz, hnd⟩ := hW
  have hA : DataW.TrodAll enc Tryz.prog W 0 (fun _ => true) true Tryz.f6.params.toList args.toList ds p := hA0
  rw [Tryz.params6] at hA hval
  obtain ⟨v0, vs0, d0, ds0, p0, q0, hargs, rfl, rfl, h0, r0⟩ := trodAll_cons hA
  obtain ⟨v1, vs1, d1, ds1, p1, q1, rfl, rfl, rfl, h1, r1⟩ := trodAll_cons r0
  obtain ⟨v2, vs2, d2, ds2, p2, q2, rfl, rfl, rfl, h2, r2⟩ := trodAll_cons r1
  obtain ⟨rfl, rfl, rfl⟩ := trodAll_nil r2
  obtain rfl : args = #[v0, v1, v2] := by cases args; simp_all
  obtain ⟨rfl, rfl⟩ := trodVars_none hV
  have lt0 : ∀ x ∈ p0, x.block < W.heap.size := by obtain ⟨m, hm⟩ := h0; exact DataW.trod_lt m _ _ _ hm
  have lt1 : ∀ x ∈ p1, x.block < W.heap.size := by obtain ⟨m, hm⟩ := h1; exact DataW.trod_lt m _ _ _ hm
  have lt2 : ∀ x ∈ p2, x.block < W.heap.size := by obtain ⟨m, hm⟩ := h2; exact DataW.trod_lt m _ _ _ hm
  obtain ⟨f, fp, a0⟩ := arg_fm (hval 0 _ v0 rfl rfl) h0
  have k1 := h1
  obtain ⟨r, rfl, rfl, rfl, w1⟩ := open_int Tryz.underlying24 (hval 1 _ v1 rfl rfl) h1
  obtain ⟨x, wx, ex, a2⟩ := arg_fl (hval 2 _ v2 rfl rfl) h2
  clear hA0 hval0
  refine (law_calls (vals := [v0, .int .i64 r, v2]) (ConvertIntegrals_does (f := f) (p := fp) (r := r) wx ex) Tryz.func6 rfl rfl (of_laid hL) (.cons a0 (.cons rfl (.cons a2 .nil)))).mono fun e W' ⟨he, bel⟩ => ?_
  subst he
  exact ⟨_, rfl, _, _, _, [], _, [], hW', trodAll_mk1 (shut_bool Tryz.underlying4 _), (trodAll_cons_mk (Below.trod laidOut (by kernel_rfl) (of_decide_eq_true (by kernel_rfl)) h0 bel lt0) (trodAll_cons_mk (Below.trod laidOut (by kernel_rfl) (of_decide_eq_true (by kernel_rfl)) k1 bel lt1) (trodAll_mk1 (Below.trod laidOut (by kernel_rfl) (of_decide_eq_true (by kernel_rfl)) h2 bel lt2)))), rfl, bel.frame _, fun h => by cases h⟩
theorem over : Rows.convertIntegralsRow.holds Tryz.pinned (OpenSpec.ofChange Rows.convertIntegralsSpec) :=
  OpenClaim.holds_of_wide 6 Tryz.f6 rfl rfl rfl rfl rfl rfl rfl ⟨rfl, rfl, rfl, rfl, rfl⟩ rfl rfl rfl rfl rfl (by kernel_rfl) Tryz.func6 (by kernel_rfl)
    (of_decide_eq_true (by kernel_rfl)) (by unfold Func.isWrapper; first | (rw [if_pos (by decide +kernel)]; kernel_rfl) | (rw [if_neg (by decide +kernel)]; exact ⟨rfl, rfl⟩))
    (fun os started H enc _ => lifted os started H enc)
end convertIntegrals
end Go.Proofs.YtokgalpflooegaaGreatDoor
