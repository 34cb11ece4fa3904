/- The law QuotientQuos. No condition. -/
import Derived.Test.YtbhokdhkfodpfaaGreatDoorMq
import Derived.Test.YtbhokdhkfodpfaaGreatDoorMp
/- The law QuotientQuos. No condition. -/
namespace Go.Proofs.YtbhokdhkfodpfaaGreatDoor
set_option linter.unusedVariables false
set_option linter.unusedSimpArgs false
set_option maxHeartbeats 8000000
set_option maxRecDepth 10000
theorem RQuo_does {G : Gl} {r : Int} (hr : 0 ≤ r) (hr' : r ≤ 4) {x y : Fla} (hx : Rt x) (hy : Rt y) {u v : Flt} (hu : rcanon x.flt = u) (hv : rcanon y.flt = v) (su : -100000 ≤ u.e ∧ u.e ≤ 100000 ∧ bl u.v ≤ 256) (sv : -100000 ≤ v.e ∧ v.e ≤ 100000 ∧ bl v.v ≤ 256) (pv : v.k = 1 → 0 < v.v) (k4 : u.k = 0 ∨ u.k = 1 ∨ u.k = 2 ∨ u.k = 3) (k5 : v.k = 0 ∨ v.k = 1 ∨ v.k = 2 ∨ v.k = 3) :
    Does Tryz.prog G 32 [.c (.i .i64 r), Fl x.k x.n x.e x.m, Fl y.k y.n y.e y.m] (.t [Iv (quoZ r u v), .c (.b (quoOk u v))]) := by
  have ku : u.k = x.k := by rw [← hu, rcanon_k]; rfl
  have kv : v.k = y.k := by rw [← hv, rcanon_k]; rfl
  by_cases hb : u.k = 3 ∨ v.k = 3 ∨ u.k = 2 ∨ v.k = 0
  · have e1 : quoZ r u v = 0 := by unfold quoZ; rw [if_neg]; omega
    have e2 : quoOk u v = false := by unfold quoOk; rcases hb with h | h | h | h <;> simp [h]
    rw [e1, e2]
    rw [ku, kv] at hb
    refine Does.of (nt := 42) Tryz.func32 rfl rfl rfl (by simp) ?_
    simp only [argTm, PV.ext, Ce.ext]
    refine Do.seqk fun _ k1_ => ?_
    refine Do.region [0,4,5,6] true ?_
    simp [go_sem]
    apply k1_; clear k1_
    refine Do.seqk fun _ k2_ => ?_
    refine Do.block ?_
    refine Do.seqk fun _ k3_ => ?_
    refine Do.region [0,4,5,6,8] true ?_
    simp [go_sem]
    repeat (refine And.intro (by first | omega | (intros; omega) | grind) ?_)
    apply k3_; clear k3_
    refine Do.cond [0,4,5,6] rfl (fun g1 => ?_) (fun g1 => ?_) <;> simp [go_sem] at g1 ⊢
    · refine Do.seqk fun _ k4_ => ?_
      refine Do.region [6,7] true ?_
      simp [go_sem]
      repeat (refine And.intro (by first | omega | (intros; omega) | grind) ?_)
      apply k4_; clear k4_
      refine Do.ret ?_
      simp [endQ, rets, ret1, go_sem]
      repeat (refine And.intro (by first | omega | (intros; omega) | grind) ?_)
      exact TLe.t (.cons PLe.iv0 (.cons (PLe.refl _) .nil))
    · omega
  · have e2 : quoOk u v = true := by unfold quoOk; simp; omega
    rw [e2]
    by_cases hc : v.k = 2 ∨ u.k = 0
    · have e1 : quoZ r u v = 0 := by unfold quoZ; rw [if_neg]; omega
      rw [e1]
      rw [ku, kv] at hb hc
      have hF : Does Tryz.prog G 61 [.c (.i .i64 0)] (.v (Iv 0)) := @IFrom_does G 0 (by decide)
      refine Does.of (nt := 42) Tryz.func32 rfl rfl rfl (by simp) ?_
      simp only [argTm, PV.ext, Ce.ext]
      refine Do.seqk fun _ k1_ => ?_
      refine Do.region [0,4,5,6] true ?_
      simp [go_sem]
      apply k1_; clear k1_
      refine Do.seqk fun _ k2_ => ?_
      refine Do.block ?_
      refine Do.seqk fun _ k3_ => ?_
      refine Do.region [0,4,5,6,8] true ?_
      simp [go_sem]
      repeat (refine And.intro (by first | omega | (intros; omega) | grind) ?_)
      apply k3_; clear k3_
      refine Do.cond [0,4,5,6] rfl (fun g1 => ?_) (fun g1 => ?_) <;> simp [go_sem] at g1 ⊢
      · omega
      · refine Do.seqk fun _ k4_ => ?_
        refine Do.region [0,4,5,6,28] true ?_
        simp [go_sem]
        repeat (refine And.intro (by first | omega | (intros; omega) | grind) ?_)
        apply k4_; clear k4_
        refine Do.cond [0,4,5,6] rfl (fun g2 => ?_) (fun g2 => ?_) <;> simp [go_sem] at g2 ⊢
        · refine Do.seqk fun _ k5_ => ?_
          refine Do.region [6,7] true ?_
          simp [go_sem]
          refine DoL.call true 401 rfl rfl rfl rfl (by first | exact trivial | omega | (simp; done) | (simp; omega)) (hF) rfl (by first | exact .inl rfl | exact .inr rfl) rfl ?_
          simp [go_sem]
          repeat (refine And.intro (by first | omega | (intros; omega) | grind) ?_)
          apply k5_; clear k5_
          refine Do.ret ?_
          simp [endQ, rets, ret1, go_sem]
          repeat (refine And.intro (by first | omega | (intros; omega) | grind) ?_)
          exact TLe.refl _
        · omega
    · have k1 : u.k = 1 := by omega
      have k2 : v.k = 1 := by omega
      have e1 : quoZ r u v = sgn (u.n != v.n) (wholeF r u v) := by unfold quoZ; rw [if_pos ⟨k1, k2⟩]
      rw [e1]
      have hW := @RWhole_fin G r hr hr' x y hx hy (by omega) (by omega) u v hu hv su sv (pv k2)
      rw [ku] at k1
      rw [kv] at k2
      rw [k1, k2] at hW
      generalize sgn (u.n != v.n) (wholeF r u v) = z at *
      refine Does.of (nt := 42) Tryz.func32 rfl rfl rfl (by simp) ?_
      simp only [argTm, PV.ext, Ce.ext]
      refine Do.seqk fun _ k1_ => ?_
      refine Do.region [0,4,5,6] true ?_
      simp [go_sem, k1, k2]
      apply k1_; clear k1_
      refine Do.seqk fun _ k2_ => ?_
      refine Do.block ?_
      refine Do.seqk fun _ k3_ => ?_
      refine Do.region [0,4,5,6,8] true ?_
      simp [go_sem, k1, k2]
      repeat (refine And.intro (by first | omega | (intros; omega) | grind) ?_)
      apply k3_; clear k3_
      refine Do.cond [0,4,5,6] rfl (fun g1 => ?_) (fun g1 => ?_) <;> simp [go_sem, k1, k2] at g1 ⊢
      refine Do.seqk fun _ k4_ => ?_
      refine Do.region [0,4,5,6,28] true ?_
      simp [go_sem, k1, k2]
      repeat (refine And.intro (by first | omega | (intros; omega) | grind) ?_)
      apply k4_; clear k4_
      refine Do.cond [0,4,5,6] rfl (fun g2 => ?_) (fun g2 => ?_) <;> simp [go_sem, k1, k2] at g2 ⊢
      refine Do.skip ?_
      simp [go_sem]
      apply k2_; clear k2_
      refine Do.seqk fun _ k5_ => ?_
      refine Do.region [6,7] true ?_
      simp [go_sem, k1, k2]
      repeat (refine And.intro (by first | omega | (intros; omega) | grind) ?_)
      refine DoL.call true 504 rfl rfl rfl rfl (by first | exact trivial | omega | (simp; done) | (simp; omega)) (hW) rfl (by first | exact .inl rfl | exact .inr rfl) rfl ?_
      simp [go_sem, k1, k2]
      repeat (refine And.intro (by first | omega | (intros; omega) | grind) ?_)
      apply k5_; clear k5_
      refine Do.ret ?_
      simp [endQ, rets, ret1, go_sem, k1, k2]
      repeat (refine And.intro (by first | omega | (intros; omega) | grind) ?_)
      exact TLe.refl _
theorem QuotientQuos_does {f p r : Int} {x y : Fla} (hx : Ws x.m) (ex : I64 x.e) (hy : Ws y.m) (ey : I64 y.e) : Does Tryz.prog Gv 5 [Fm f p, .c (.i .i64 r), Fl x.k x.n x.e x.m, Fl y.k y.n y.e y.m] (.v (.c (.b true))) := by
  have hS : Does Tryz.prog Gv 6 [.s false [x.cs, y.cs]] (.v (.c (.b (shortP [x, y])))) := Short15_does (l := [x, y]) (by simp)
  cases hs : shortP [x, y] with
  | false =>
    rw [hs] at hS
    refine Does.of (nt := 76) Tryz.func5 rfl rfl rfl (by simp) ?_
    simp only [argTm, PV.ext, Ce.ext]
    refine Do.seqk fun _ k1_ => ?_
    refine Do.region [1,4,6,7] true ?_
    simp [go_sem]
    apply k1_; clear k1_
    refine Do.seqk fun _ k2_ => ?_
    refine Do.seqk fun _ k3_ => ?_
    refine Do.region [1,4,6,7,18] true ?_
    simp [go_sem]
    repeat (refine And.intro (by first | omega | (intros; omega) | grind) ?_)
    refine DoL.sealS true 103 102 rfl ?_
    simp [go_sem]
    refine DoL.call true 104 rfl rfl rfl rfl (by first | exact trivial | omega | (simp; done) | (simp; omega)) (hS) rfl (by first | exact .inl rfl | exact .inr rfl) rfl ?_
    simp [go_sem]
    repeat (refine And.intro (by first | omega | (intros; omega) | grind) ?_)
    apply k3_; clear k3_
    refine Do.cond [1,4,6,7] rfl (fun h => ?_) (fun h => ?_) <;> simp [go_sem] at h ⊢
    refine Do.seqk fun _ k4_ => ?_
    refine Do.region [8] true ?_
    simp [go_sem]
    refine DoL.call true 201 rfl rfl rfl rfl (by first | exact trivial | omega | (simp; done) | (simp; omega)) (awake19_does) rfl (by first | exact .inl rfl | exact .inr rfl) rfl ?_
    simp [go_sem]
    apply k4_; clear k4_
    refine Do.ret ?_
    simp [endQ, rets, ret1, go_sem]
    repeat (refine And.intro (by first | omega | (intros; omega) | grind) ?_)
    exact TLe.refl _
  | true =>
    rw [hs] at hS
    have hsx : x.m.length ≤ 40 ∧ y.m.length ≤ 40 := by simpa [shortP] using hs
    have ox : x.Ok := ⟨by simp [Sh]; omega, hx, ex⟩
    have oy : y.Ok := ⟨by simp [Sh]; omega, hy, ey⟩
    have hA : Does Tryz.prog Gv 7 [Fm f p, .c (.i .i64 r), .s false [x.cs, y.cs]] (.int .i64 (argsE f p r false [x, y])) := @KArgs_does Gv f p r [x, y] (by simp) (by simp [ox, oy])
    have hNo := @NoInt_does20 0 false [] (by decide)
    have iv0 : Iv 0 = .a [.b false, .w false []] := by
      show Ig (decide ((0 : Int) < 0)) (nat (0 : Int).natAbs) = _
      simp [nat_zero]
    by_cases he : argsE f p r false [x, y] = 0
    · obtain ⟨h1, h2, h3, h4, h5, h6⟩ := argsE_zero he
      have hhx : (holdsP f p x.flt).2 = true := by simpa using List.all_eq_true.1 h6 x (by simp)
      have hhy : (holdsP f p y.flt).2 = true := by simpa using List.all_eq_true.1 h6 y (by simp)
      have sx := held_small h5 hhx
      have sy := held_small h5 hhy
      have cx := held_cf hhx
      have cy := held_cf hhy
      have hrt := held_rt h6 (by simp [ox, oy]) h1
      have hQ := @Quo_does f p r x y ox oy he _ _ rfl rfl
      have hRq := @RQuo_does Gv r h2 h3 x y (hrt x (by simp)) (hrt y (by simp)) _ _ (held_rcanon hhx).1 (held_rcanon hhy).1 ⟨sx.1, sx.2.1, sx.2.2.1⟩ ⟨sy.1, sy.2.1, sy.2.2.1⟩ (fun k => Nat.pos_of_ne_zero (cy.pos k)) cx.k cy.k
      have hz0 : quoOk (holdsP f p x.flt).1 (holdsP f p y.flt).1 = false → quoZ r (holdsP f p x.flt).1 (holdsP f p y.flt).1 = 0 := by
        intro h
        unfold quoOk at h
        unfold quoZ
        rw [if_neg]
        rintro ⟨g1, g2⟩
        rw [g1, g2] at h
        simp at h
      have hzb : bl (quoZ r (holdsP f p x.flt).1 (holdsP f p y.flt).1).natAbs ≤ 1000000 := by
        unfold quoZ
        split
        · rw [sgn_abs]
          have := @wholeF_bl r _ (holdsP f p y.flt).1 sx.2.2.1 ⟨sx.1, sx.2.1⟩ ⟨sy.1, sy.2.1⟩
          omega
        · simp [bl_zero]
      rw [he] at hA
      generalize quoZ r (holdsP f p x.flt).1 (holdsP f p y.flt).1 = z at *
      generalize quoOk (holdsP f p x.flt).1 (holdsP f p y.flt).1 = ok at *
      have hIs := @IIs_same Gv z hzb
      cases ok with
      | false =>
        have hz := hz0 rfl
        subst hz
        rw [iv0] at hQ hRq
        refine Does.of (nt := 76) Tryz.func5 rfl rfl rfl (by simp) ?_
        simp only [argTm, PV.ext, Ce.ext]
        refine Do.seqk fun _ k1_ => ?_
        refine Do.region [1,4,6,7] true ?_
        simp [go_sem]
        apply k1_; clear k1_
        refine Do.seqk fun _ k2_ => ?_
        refine Do.seqk fun _ k3_ => ?_
        refine Do.region [1,4,6,7,18] true ?_
        simp [go_sem]
        repeat (refine And.intro (by first | omega | (intros; omega) | grind) ?_)
        refine DoL.sealS true 103 102 rfl ?_
        simp [go_sem]
        refine DoL.call true 104 rfl rfl rfl rfl (by first | exact trivial | omega | (simp; done) | (simp; omega)) (hS) rfl (by first | exact .inl rfl | exact .inr rfl) rfl ?_
        simp [go_sem]
        repeat (refine And.intro (by first | omega | (intros; omega) | grind) ?_)
        apply k3_; clear k3_
        refine Do.cond [1,4,6,7] rfl (fun h => ?_) (fun h => ?_) <;> simp [go_sem] at h ⊢
        refine Do.skip ?_
        simp [go_sem]
        apply k2_; clear k2_
        refine Do.seqk fun _ k4_ => ?_
        refine Do.region [1,4,6,7,9,10] true ?_
        simp [go_sem]
        repeat (refine And.intro (by first | omega | (intros; omega) | grind) ?_)
        refine DoL.call true 305 rfl rfl rfl rfl (by first | exact trivial | omega | (simp; done) | (simp; omega)) (hQ) rfl (by first | exact .inl rfl | exact .inr rfl) rfl ?_
        simp [go_sem]
        repeat (refine And.intro (by first | omega | (intros; omega) | grind) ?_)
        apply k4_; clear k4_
        refine Do.seqk fun _ k5_ => ?_
        refine Do.region [1,6,7,9,10,11] true ?_
        simp [go_sem]
        repeat (refine And.intro (by first | omega | (intros; omega) | grind) ?_)
        refine DoL.sealS true 405 404 rfl ?_
        simp [go_sem]
        refine DoL.call true 406 rfl rfl rfl rfl (by first | exact trivial | omega | (simp; done) | (simp; omega)) (hA) rfl (by first | exact .inl rfl | exact .inr rfl) rfl ?_
        simp [go_sem]
        apply k5_; clear k5_
        refine Do.seqk fun _ k6_ => ?_
        refine Do.seqk fun _ k7_ => ?_
        refine Do.region [1,6,7,9,10,11,35] true ?_
        simp [go_sem]
        apply k7_; clear k7_
        refine Do.cond [1,6,7,9,10,11] rfl (fun h => ?_) (fun h => ?_) <;> simp [go_sem] at h ⊢
        refine Do.skip ?_
        simp [go_sem]
        apply k6_; clear k6_
        refine Do.seqk fun _ k8_ => ?_
        refine Do.draw [9,10,12,13] true (by kernel_rfl) ?_
        simp [go_sem]
        repeat (refine And.intro (by first | omega | (intros; omega) | kernel_rfl | grind) ?_)
        refine DoLD.call true 703 rfl rfl rfl rfl (by first | exact trivial | omega | (simp; done) | (simp; omega)) (Their_does) rfl (by first | exact .inl rfl | exact .inr rfl) rfl ?_
        simp [go_sem]
        repeat (refine And.intro (by first | omega | (intros; omega) | kernel_rfl | grind) ?_)
        refine DoLD.call true 705 rfl rfl rfl rfl (by first | exact trivial | omega | (simp; done) | (simp; omega)) (Their_does) rfl (by first | exact .inl rfl | exact .inr rfl) rfl ?_
        simp [go_sem]
        refine DoLD.call true 706 rfl rfl rfl rfl (by first | exact trivial | omega | (simp; done) | (simp; omega)) (hRq) rfl (by first | exact .inl rfl | exact .inr rfl) rfl ?_
        simp [go_sem]
        repeat (refine And.intro (by first | omega | (intros; omega) | kernel_rfl | grind) ?_)
        try (refine And.intro (by kernel_rfl) ?_)
        apply k8_; clear k8_
        refine Do.seqk fun _ k9_ => ?_
        refine Do.seqk fun _ k10_ => ?_
        refine Do.region [9,10,12,56] true ?_
        simp [go_sem]
        repeat (refine And.intro (by first | omega | (intros; omega) | grind) ?_)
        apply k10_; clear k10_
        refine Do.cond [9,10,12] rfl (fun h => ?_) (fun h => ?_) <;> simp [go_sem] at h ⊢
        refine Do.seqk fun _ k11_ => ?_
        refine Do.region [8] true ?_
        simp [go_sem]
        repeat (refine And.intro (by first | omega | (intros; omega) | grind) ?_)
        refine DoL.callg true 905 rfl rfl rfl rfl rfl (by simp [go_sem] <;> omega) (fun _ => hNo) rfl (by first | exact .inl rfl | exact .inr rfl) rfl ?_
        simp [go_sem]
        refine DoL.callg true 908 rfl rfl rfl rfl rfl (by simp [go_sem] <;> omega) (fun _ => awake19_does) rfl (by first | exact .inl rfl | exact .inr rfl) rfl ?_
        simp [go_sem]
        apply k11_; clear k11_
        refine Do.ret ?_
        simp [endQ, rets, ret1, go_sem]
        repeat (refine And.intro (by first | omega | (intros; omega) | grind) ?_)
        exact TLe.refl _
      | true =>
        generalize hiv : Iv z = iz at *
        obtain ⟨ib, im, hii⟩ : ∃ ib im, iz = .a [.b ib, .w false im] := ⟨_, _, hiv.symm⟩
        subst hii
        refine Does.of (nt := 76) Tryz.func5 rfl rfl rfl (by simp) ?_
        simp only [argTm, PV.ext, Ce.ext]
        refine Do.seqk fun _ k1_ => ?_
        refine Do.region [1,4,6,7] true ?_
        simp [go_sem]
        apply k1_; clear k1_
        refine Do.seqk fun _ k2_ => ?_
        refine Do.seqk fun _ k3_ => ?_
        refine Do.region [1,4,6,7,18] true ?_
        simp [go_sem]
        repeat (refine And.intro (by first | omega | (intros; omega) | grind) ?_)
        refine DoL.sealS true 103 102 rfl ?_
        simp [go_sem]
        refine DoL.call true 104 rfl rfl rfl rfl (by first | exact trivial | omega | (simp; done) | (simp; omega)) (hS) rfl (by first | exact .inl rfl | exact .inr rfl) rfl ?_
        simp [go_sem]
        repeat (refine And.intro (by first | omega | (intros; omega) | grind) ?_)
        apply k3_; clear k3_
        refine Do.cond [1,4,6,7] rfl (fun h => ?_) (fun h => ?_) <;> simp [go_sem] at h ⊢
        refine Do.skip ?_
        simp [go_sem]
        apply k2_; clear k2_
        refine Do.seqk fun _ k4_ => ?_
        refine Do.region [1,4,6,7,9,10] true ?_
        simp [go_sem]
        repeat (refine And.intro (by first | omega | (intros; omega) | grind) ?_)
        refine DoL.call true 305 rfl rfl rfl rfl (by first | exact trivial | omega | (simp; done) | (simp; omega)) (hQ) rfl (by first | exact .inl rfl | exact .inr rfl) rfl ?_
        simp [go_sem]
        repeat (refine And.intro (by first | omega | (intros; omega) | grind) ?_)
        apply k4_; clear k4_
        refine Do.seqk fun _ k5_ => ?_
        refine Do.region [1,6,7,9,10,11] true ?_
        simp [go_sem]
        repeat (refine And.intro (by first | omega | (intros; omega) | grind) ?_)
        refine DoL.sealS true 405 404 rfl ?_
        simp [go_sem]
        refine DoL.call true 406 rfl rfl rfl rfl (by first | exact trivial | omega | (simp; done) | (simp; omega)) (hA) rfl (by first | exact .inl rfl | exact .inr rfl) rfl ?_
        simp [go_sem]
        apply k5_; clear k5_
        refine Do.seqk fun _ k6_ => ?_
        refine Do.seqk fun _ k7_ => ?_
        refine Do.region [1,6,7,9,10,11,35] true ?_
        simp [go_sem]
        apply k7_; clear k7_
        refine Do.cond [1,6,7,9,10,11] rfl (fun h => ?_) (fun h => ?_) <;> simp [go_sem] at h ⊢
        refine Do.skip ?_
        simp [go_sem]
        apply k6_; clear k6_
        refine Do.seqk fun _ k8_ => ?_
        refine Do.draw [9,10,12,13] true (by kernel_rfl) ?_
        simp [go_sem]
        repeat (refine And.intro (by first | omega | (intros; omega) | kernel_rfl | grind) ?_)
        refine DoLD.call true 703 rfl rfl rfl rfl (by first | exact trivial | omega | (simp; done) | (simp; omega)) (Their_does) rfl (by first | exact .inl rfl | exact .inr rfl) rfl ?_
        simp [go_sem]
        repeat (refine And.intro (by first | omega | (intros; omega) | kernel_rfl | grind) ?_)
        refine DoLD.call true 705 rfl rfl rfl rfl (by first | exact trivial | omega | (simp; done) | (simp; omega)) (Their_does) rfl (by first | exact .inl rfl | exact .inr rfl) rfl ?_
        simp [go_sem]
        refine DoLD.call true 706 rfl rfl rfl rfl (by first | exact trivial | omega | (simp; done) | (simp; omega)) (hRq) rfl (by first | exact .inl rfl | exact .inr rfl) rfl ?_
        simp [go_sem]
        repeat (refine And.intro (by first | omega | (intros; omega) | kernel_rfl | grind) ?_)
        try (refine And.intro (by kernel_rfl) ?_)
        apply k8_; clear k8_
        refine Do.seqk fun _ k9_ => ?_
        refine Do.seqk fun _ k10_ => ?_
        refine Do.region [9,10,12,56] true ?_
        simp [go_sem]
        repeat (refine And.intro (by first | omega | (intros; omega) | grind) ?_)
        apply k10_; clear k10_
        refine Do.cond [9,10,12] rfl (fun h => ?_) (fun h => ?_) <;> simp [go_sem] at h ⊢
        refine Do.skip ?_
        simp [go_sem]
        apply k9_; clear k9_
        refine Do.seqk fun _ k11_ => ?_
        refine Do.region [8] true ?_
        simp [go_sem]
        repeat (refine And.intro (by first | omega | (intros; omega) | grind) ?_)
        refine DoL.callg true 1006 rfl rfl rfl rfl rfl (by simp [go_sem] <;> omega) (fun _ => hIs) rfl (by first | exact .inl rfl | exact .inr rfl) rfl ?_
        simp [go_sem]
        refine DoL.callg true 1009 rfl rfl rfl rfl rfl (by simp [go_sem] <;> omega) (fun _ => awake19_does) rfl (by first | exact .inl rfl | exact .inr rfl) rfl ?_
        simp [go_sem]
        apply k11_; clear k11_
        refine Do.ret ?_
        simp [endQ, rets, ret1, go_sem]
        repeat (refine And.intro (by first | omega | (intros; omega) | grind) ?_)
        exact TLe.refl _
    · have hQ := @Quo_err f p r x y ox oy he
      rw [iv0] at hQ
      generalize argsE f p r false [x, y] = z at *
      have hz : (z != 0) = true := by simpa using he
      refine Does.of (nt := 76) Tryz.func5 rfl rfl rfl (by simp) ?_
      simp only [argTm, PV.ext, Ce.ext]
      refine Do.seqk fun _ k1_ => ?_
      refine Do.region [1,4,6,7] true ?_
      simp [go_sem]
      apply k1_; clear k1_
      refine Do.seqk fun _ k2_ => ?_
      refine Do.seqk fun _ k3_ => ?_
      refine Do.region [1,4,6,7,18] true ?_
      simp [go_sem]
      repeat (refine And.intro (by first | omega | (intros; omega) | grind) ?_)
      refine DoL.sealS true 103 102 rfl ?_
      simp [go_sem]
      refine DoL.call true 104 rfl rfl rfl rfl (by first | exact trivial | omega | (simp; done) | (simp; omega)) (hS) rfl (by first | exact .inl rfl | exact .inr rfl) rfl ?_
      simp [go_sem]
      repeat (refine And.intro (by first | omega | (intros; omega) | grind) ?_)
      apply k3_; clear k3_
      refine Do.cond [1,4,6,7] rfl (fun h => ?_) (fun h => ?_) <;> simp [go_sem] at h ⊢
      refine Do.skip ?_
      simp [go_sem]
      apply k2_; clear k2_
      refine Do.seqk fun _ k4_ => ?_
      refine Do.region [1,4,6,7,9,10] true ?_
      simp [go_sem]
      repeat (refine And.intro (by first | omega | (intros; omega) | grind) ?_)
      refine DoL.call true 305 rfl rfl rfl rfl (by first | exact trivial | omega | (simp; done) | (simp; omega)) (hQ) rfl (by first | exact .inl rfl | exact .inr rfl) rfl ?_
      simp [go_sem]
      repeat (refine And.intro (by first | omega | (intros; omega) | grind) ?_)
      apply k4_; clear k4_
      refine Do.seqk fun _ k5_ => ?_
      refine Do.region [1,6,7,9,10,11] true ?_
      simp [go_sem]
      repeat (refine And.intro (by first | omega | (intros; omega) | grind) ?_)
      refine DoL.sealS true 405 404 rfl ?_
      simp [go_sem]
      refine DoL.call true 406 rfl rfl rfl rfl (by first | exact trivial | omega | (simp; done) | (simp; omega)) (hA) rfl (by first | exact .inl rfl | exact .inr rfl) rfl ?_
      simp [go_sem]
      apply k5_; clear k5_
      refine Do.seqk fun _ k6_ => ?_
      refine Do.seqk fun _ k7_ => ?_
      refine Do.region [1,6,7,9,10,11,35] true ?_
      simp [go_sem, hz]
      apply k7_; clear k7_
      refine Do.cond [1,6,7,9,10,11] rfl (fun h => ?_) (fun h => ?_) <;> simp [go_sem, hz] at h ⊢
      refine Do.seqk fun _ k8_ => ?_
      refine Do.region [8] true ?_
      simp [go_sem, hz]
      repeat (refine And.intro (by first | omega | (intros; omega) | grind) ?_)
      refine DoL.callg true 606 rfl rfl rfl rfl rfl (by simp [go_sem] <;> omega) (fun _ => hNo) rfl (by first | exact .inl rfl | exact .inr rfl) rfl ?_
      simp [go_sem, hz]
      refine DoL.callg true 609 rfl rfl rfl rfl rfl (by simp [go_sem] <;> omega) (fun _ => awake19_does) rfl (by first | exact .inl rfl | exact .inr rfl) rfl ?_
      simp [go_sem, hz]
      apply k8_; clear k8_
      refine Do.ret ?_
      simp [endQ, rets, ret1, go_sem, hz]
      repeat (refine And.intro (by first | omega | (intros; omega) | grind) ?_)
      exact TLe.refl _
end Go.Proofs.YtbhokdhkfodpfaaGreatDoor
