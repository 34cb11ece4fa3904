/- The law ConvertBits. No condition. -/
import Derived.Test.YtokgalpflooegaaGreatDoorMk
/- The law ConvertBits. No condition. -/
namespace Go.Proofs.YtokgalpflooegaaGreatDoor
set_option linter.unusedVariables false
set_option linter.unusedSimpArgs false
set_option maxHeartbeats 8000000
set_option maxRecDepth 10000
/-- A float as an integer of so many bits, and the flags. -/
def bitsP (r : Int) (a : Flt) (b : Nat) (s : Bool) : Int × Int :=
  if (a.k = 1 ∨ a.k = 0) ∧ (wholeP r ⟨a.n, a.v, a.e⟩).1 ≤ lim b s a.n then (sgn a.n (wholeP r ⟨a.n, a.v, a.e⟩).1, if (wholeP r ⟨a.n, a.v, a.e⟩).2 then 0 else 1)
  else if a.k = 3 then (0, 16) else (sgn a.n (lim b s a.n), 16)
theorem ple_int0 : PLe (.a [.b false, .z]) (Iv 0) := by
  show PLe _ (.a [.b (decide ((0 : Int) < 0)), .w false (nat 0)])
  rw [nat_zero]
  exact PLe.agg (.cons (PLe.refl _) (.cons (PLe.z false) .nil))
section
variable {f p r : Int} {x : Fla} {bi : Int} {s : Bool}
theorem ToBits_err (hx : x.Ok) (he : argsC f p f p r (decide (bi < 1) || decide (4096 < bi)) x ≠ 0) : Does Tryz.prog Gv 32 [Fm f p, .c (.i .i64 r), Fl x.k x.n x.e x.m, .c (.i .i64 bi), .c (.b s)] (.t [.a [.b false, .z], .c (.i .i64 0), .c (.i .i64 (argsC f p f p r (decide (bi < 1) || decide (4096 < bi)) x))]) := by
  have hA := @cargs_does f p f p r (decide (bi < 1) || decide (4096 < bi)) x hx
  rw [if_neg he] at hA
  generalize argsC f p f p r (decide (bi < 1) || decide (4096 < bi)) x = z at *
  have hz : (z != 0) = true := by simpa using he
  refine Does.of (nt := 72) Tryz.func32 rfl rfl rfl (by simp) ?_
  simp only [argTm, PV.ext, Ce.ext]
  refine Do.seqk fun _ k1_ => ?_
  refine Do.region [1,3,4,5,7,10] true ?_
  simp [go_sem]
  apply k1_; clear k1_
  refine Do.seqk fun _ k2_ => ?_
  refine Do.region [1,3,4,7,10,13] true ?_
  simp [go_sem]
  repeat (refine And.intro (by first | omega | (intros; omega) | (intros; exact And.intro (by assumption) (by omega)) | grind) ?_)
  refine DoL.call true 111 rfl rfl rfl rfl (by first | exact trivial | omega | (simp; done) | (simp; omega)) (hA) rfl (by first | exact .inl rfl | exact .inr rfl) rfl ?_
  simp [go_sem]
  repeat (refine And.intro (by first | omega | (intros; omega) | (intros; exact And.intro (by assumption) (by omega)) | grind) ?_)
  apply k2_; clear k2_
  refine Do.seqk fun _ k3_ => ?_
  refine Do.seqk fun _ k4_ => ?_
  refine Do.region [1,3,4,7,10,13,32] true ?_
  simp [go_sem, hz]
  apply k4_; clear k4_
  refine Do.cond [1,3,4,7,10,13] rfl (fun g1 => ?_) (fun g1 => ?_) <;> simp [go_sem, hz] at g1 ⊢
  refine Do.seqk fun _ k5_ => ?_
  refine Do.region [10,11,12] true ?_
  simp [go_sem, hz]
  repeat (refine And.intro (by first | omega | (intros; omega) | (intros; exact And.intro (by assumption) (by omega)) | grind) ?_)
  apply k5_; clear k5_
  refine Do.ret ?_
  simp [endQ, rets, ret1, go_sem, hz]
  repeat (refine And.intro (by first | omega | (intros; omega) | (intros; exact And.intro (by assumption) (by omega)) | grind) ?_)
  exact TLe.refl _
theorem ToBits_does (hx : x.Ok) (he : argsC f p f p r false x = 0) (h1 : 1 ≤ bi) (h2 : bi ≤ 4096) {a : Flt} (ha : (holdsP f p x.flt).1 = a) (hok : a.k = 0 ∨ a.k = 1 → (Nu.mk a.n a.v a.e).Ok ∧ a.e.toNat + bl a.v ≤ 100000) : Does Tryz.prog Gv 32 [Fm f p, .c (.i .i64 r), Fl x.k x.n x.e x.m, .c (.i .i64 bi), .c (.b s)] (.t [Iv (bitsP r a bi.toNat s).1, .c (.i .i64 (bitsP r a bi.toNat s).2), .c (.i .i64 0)]) := by
  have hA := @cargs_does f p f p r false x hx
  obtain ⟨e1, e2, e3, e4, e5, e6, e7⟩ := argsC_zero he
  rw [if_pos he, he, ha] at hA
  have hout : (decide (bi < 1) || decide (4096 < bi)) = false := by simp; omega
  have hL := @limits_does bi.toNat s (by omega) (by omega)
  rw [show ((bi.toNat : Nat) : Int) = bi by omega] at hL
  have hlb0 := lim_bl (show bi.toNat ≤ 4096 by omega) s false
  have hlb1 := lim_bl (show bi.toNat ≤ 4096 by omega) s true
  have hll0 := len_bl hlb0
  have hll1 := len_bl hlb1
  have hW := fun (h : a.k = 0 ∨ a.k = 1) => @WholeN_does r e2 e3 ⟨a.n, a.v, a.e⟩ (hok h).1
  have hwb := fun (h : a.k = 0 ∨ a.k = 1) => (hok h).2
  have hwb2 := wholeP_bl r ⟨a.n, a.v, a.e⟩
  have hz : bitsP r a bi.toNat s = bitsP r a bi.toNat s := rfl
  conv at hz => rhs; unfold bitsP
  generalize bitsP r a bi.toNat s = z at *
  obtain ⟨ak, an, ae, av⟩ := a
  simp only [] at hW hwb hz hwb2
  have hCm := fun (lm : Nat) (hlm : (nat lm).length ≤ 1000) (h : ak = 0 ∨ ak = 1) => @Cmp_does Gv (nat (wholeP r ⟨an, av, ae⟩).1) (nat lm) (by have h1 := hwb h; have h2 := nat_len_bl (wholeP r ⟨an, av, ae⟩).1; unfold Sh; omega) (by unfold Sh; omega) (nat_ws _) (nat_ws _)
  simp only [val_nat] at hCm
  have hFl := @flag_does20 (wholeP r ⟨an, av, ae⟩).2
  have hsn := sgn_neg an (lim bi.toNat s an)
  generalize hfl : (if (wholeP r ⟨an, av, ae⟩).2 = true then (0 : Int) else 1) = fl at *
  generalize (wholeP r ⟨an, av, ae⟩).2 = ex at *
  have hWz : (sgn an (wholeP r ⟨an, av, ae⟩).1).natAbs = (wholeP r ⟨an, av, ae⟩).1 := sgn_abs _ _
  generalize hWe : (wholeP r ⟨an, av, ae⟩).1 = W at *
  cases an with
  | false =>
    have hSd : Does Tryz.prog Gv 89 [.c (.b false)] (.v (.c (.i .i64 0))) := @side_does false
    have hCm := hCm (lim bi.toNat s false) (by omega)
    generalize lim bi.toNat s true = l1 at *
    generalize lim bi.toNat s false = l0 at *
    have hW2 : ak = 0 ∨ ak = 1 → Does Tryz.prog Gv 80 [Nm false (nat av) ae, .c (.i .i64 r)] (.t [.a [.b (decide (sgn false W < 0)), .w false (nat W)], .c (.b ex)]) := fun h => by
      have := hW h
      rw [show Iv (sgn false W) = .a [.b (decide (sgn false W < 0)), .w false (nat (sgn false W).natAbs)] from rfl, hWz] at this
      exact this
    have hlen : (false && decide (0 < ((nat l0).length : Int))) = decide (sgn false l0 < 0) := sgn_neg false l0
    refine Does.of (nt := 72) Tryz.func32 rfl rfl rfl (by simp) ?_
    simp only [argTm, PV.ext, Ce.ext]
    refine Do.seqk fun _ k1_ => ?_
    refine Do.region [1,3,4,5,7,10] true ?_
    simp [go_sem, hout]
    apply k1_; clear k1_
    refine Do.seqk fun _ k2_ => ?_
    refine Do.region [1,3,4,7,10,13] true ?_
    simp [go_sem, hout]
    repeat (refine And.intro (by first | omega | (intros; omega) | (intros; exact And.intro (by assumption) (by omega)) | grind) ?_)
    refine DoL.call true 111 rfl rfl rfl rfl (by first | exact trivial | omega | (simp; done) | (simp; omega)) (hA) rfl (by first | exact .inl rfl | exact .inr rfl) rfl ?_
    simp [go_sem, hout]
    repeat (refine And.intro (by first | omega | (intros; omega) | (intros; exact And.intro (by assumption) (by omega)) | grind) ?_)
    apply k2_; clear k2_
    refine Do.seqk fun _ k3_ => ?_
    refine Do.seqk fun _ k4_ => ?_
    refine Do.region [1,3,4,7,10,13,32] true ?_
    simp [go_sem, hout]
    apply k4_; clear k4_
    refine Do.cond [1,3,4,7,10,13] rfl (fun g1 => ?_) (fun g1 => ?_) <;> simp [go_sem, hout] at g1 ⊢
    refine Do.skip ?_
    simp [go_sem]
    apply k3_; clear k3_
    refine Do.seqk fun _ k5_ => ?_
    refine Do.draw [1,7,10,14] true (by kernel_rfl) ?_
    simp [go_sem, hout]
    refine DoLD.call true 403 rfl rfl rfl rfl (by first | exact trivial | omega | (simp; done) | (simp; omega)) (hL) rfl (by first | exact .inl rfl | exact .inr rfl) rfl ?_
    simp [go_sem, hout]
    repeat (refine And.intro (by first | omega | (intros; omega) | (intros; exact And.intro (by assumption) (by omega)) | kernel_rfl | grind) ?_)
    refine DoLD.call true 406 rfl rfl rfl rfl (by first | exact trivial | omega | (simp; done) | (simp; omega)) (hSd) rfl (by first | exact .inl rfl | exact .inr rfl) rfl ?_
    simp [go_sem, hout]
    repeat (refine And.intro (by first | omega | (intros; omega) | (intros; exact And.intro (by assumption) (by omega)) | kernel_rfl | grind) ?_)
    try (refine And.intro (by kernel_rfl) ?_)
    apply k5_; clear k5_
    refine Do.seqk fun _ k6_ => ?_
    refine Do.seqk fun _ k7_ => ?_
    refine Do.region [1,7,10,14,43] true ?_
    simp [go_sem, hout]
    repeat (refine And.intro (by first | omega | (intros; omega) | (intros; exact And.intro (by assumption) (by omega)) | grind) ?_)
    refine DoL.call true 502 rfl rfl rfl rfl (by first | exact trivial | omega | (simp; done) | (simp; omega)) (number_does20) rfl (by first | exact .inl rfl | exact .inr rfl) rfl ?_
    simp [go_sem, hout]
    apply k7_; clear k7_
    refine Do.cond [1,7,10,14] rfl (fun g2 => ?_) (fun g2 => ?_) <;> simp [go_sem, hout] at g2 ⊢
    · refine Do.seqk fun _ k8_ => ?_
      refine Do.region [7,10,14,15,16] true ?_
      simp [go_sem, hout]
      repeat (refine And.intro (by first | omega | (intros; omega) | (intros; exact And.intro (by assumption) (by omega)) | grind) ?_)
      refine DoL.call true 602 rfl rfl rfl rfl (by first | exact trivial | omega | (simp; done) | (simp; omega)) (Of_does) rfl (by first | exact .inl rfl | exact .inr rfl) rfl ?_
      simp [go_sem, hout]
      refine DoL.call true 604 rfl rfl rfl rfl (by first | exact trivial | omega | (simp; done) | (simp; omega)) (hW2 (by omega)) rfl (by first | exact .inl rfl | exact .inr rfl) rfl ?_
      simp [go_sem, hout]
      repeat (refine And.intro (by first | omega | (intros; omega) | (intros; exact And.intro (by assumption) (by omega)) | grind) ?_)
      apply k8_; clear k8_
      refine Do.seqk fun _ k9_ => ?_
      refine Do.region [7,10,14,15,16,55] true ?_
      simp [go_sem, hout]
      repeat (refine And.intro (by first | omega | (intros; omega) | (intros; exact And.intro (by assumption) (by omega)) | grind) ?_)
      refine DoL.call true 704 rfl rfl rfl rfl (by first | exact trivial | omega | (simp; done) | (simp; omega)) (hCm (by omega)) rfl (by first | exact .inl rfl | exact .inr rfl) rfl ?_
      simp [go_sem, hout]
      apply k9_; clear k9_
      refine Do.cond [7,10,14,15,16] rfl (fun g3 => ?_) (fun g3 => ?_) <;> simp [go_sem, hout] at g3 ⊢
      · refine Do.seqk fun _ k10_ => ?_
        refine Do.draw [10,11,12] true (by kernel_rfl) ?_
        simp [go_sem, hout]
        repeat (refine And.intro (by first | omega | (intros; omega) | (intros; exact And.intro (by assumption) (by omega)) | kernel_rfl | grind) ?_)
        refine DoLD.call true 803 rfl rfl rfl rfl (by first | exact trivial | omega | (simp; done) | (simp; omega)) (hFl) rfl (by first | exact .inl rfl | exact .inr rfl) rfl ?_
        simp [go_sem, hout]
        repeat (refine And.intro (by first | omega | (intros; omega) | (intros; exact And.intro (by assumption) (by omega)) | kernel_rfl | grind) ?_)
        try (refine And.intro (by kernel_rfl) ?_)
        apply k10_; clear k10_
        refine Do.ret ?_
        simp [endQ, rets, ret1, go_sem, hout]
        repeat (refine And.intro (by first | omega | (intros; omega) | (intros; exact And.intro (by assumption) (by omega)) | grind) ?_)
        rw [if_pos ⟨by omega, by split at g3 <;> (try split at g3) <;> omega⟩] at hz
        subst hz
        exact TLe.t (.cons (PLe.iv20 rfl (PLe.refl _)) (.cons (PLe.refl _) (.cons (PLe.refl _) .nil)))
      · have hno : ¬ W ≤ l0 := fun h => by rw [if_neg (show ¬ _ by omega)] at g3; split at g3 <;> omega
        rw [if_neg (fun h => hno h.2)] at hz
        refine Do.skip ?_
        simp [go_sem]
        apply k6_; clear k6_
        refine Do.seqk fun _ k11_ => ?_
        refine Do.seqk fun _ k12_ => ?_
        refine Do.region [7,10,14,61] true ?_
        simp [go_sem, hout]
        repeat (refine And.intro (by first | omega | (intros; omega) | (intros; exact And.intro (by assumption) (by omega)) | grind) ?_)
        apply k12_; clear k12_
        refine Do.cond [7,10,14] rfl (fun g4 => ?_) (fun g4 => ?_) <;> simp [go_sem, hout] at g4 ⊢
        · omega
        · refine Do.skip ?_
          simp [go_sem]
          apply k11_; clear k11_
          refine Do.seqk fun _ k13_ => ?_
          refine Do.region [10,11,12] true ?_
          simp [go_sem, hout]
          repeat (refine And.intro (by first | omega | (intros; omega) | (intros; exact And.intro (by assumption) (by omega)) | grind) ?_)
          apply k13_; clear k13_
          refine Do.ret ?_
          simp [endQ, rets, ret1, go_sem, hout]
          repeat (refine And.intro (by first | omega | (intros; omega) | (intros; exact And.intro (by assumption) (by omega)) | grind) ?_)
          rw [if_neg g4] at hz
          subst hz
          exact TLe.t (.cons (PLe.iv20 (n := false) (v := l0) (by rw [← hlen]; simp) (PLe.refl _)) (.cons (PLe.refl _) (.cons (PLe.refl _) .nil)))
    · rw [if_neg (fun h => by omega)] at hz
      refine Do.skip ?_
      simp [go_sem]
      apply k6_; clear k6_
      refine Do.seqk fun _ k14_ => ?_
      refine Do.seqk fun _ k15_ => ?_
      refine Do.region [7,10,14,61] true ?_
      simp [go_sem, hout]
      repeat (refine And.intro (by first | omega | (intros; omega) | (intros; exact And.intro (by assumption) (by omega)) | grind) ?_)
      apply k15_; clear k15_
      refine Do.cond [7,10,14] rfl (fun g4 => ?_) (fun g4 => ?_) <;> simp [go_sem, hout] at g4 ⊢
      · refine Do.seqk fun _ k16_ => ?_
        refine Do.region [10,11,12] true ?_
        simp [go_sem, hout]
        repeat (refine And.intro (by first | omega | (intros; omega) | (intros; exact And.intro (by assumption) (by omega)) | grind) ?_)
        apply k16_; clear k16_
        refine Do.ret ?_
        simp [endQ, rets, ret1, go_sem, hout]
        repeat (refine And.intro (by first | omega | (intros; omega) | (intros; exact And.intro (by assumption) (by omega)) | grind) ?_)
        rw [if_pos g4] at hz
        subst hz
        exact TLe.t (.cons ple_int0 (.cons (PLe.refl _) (.cons (PLe.refl _) .nil)))
      · refine Do.skip ?_
        simp [go_sem]
        apply k14_; clear k14_
        refine Do.seqk fun _ k17_ => ?_
        refine Do.region [10,11,12] true ?_
        simp [go_sem, hout]
        repeat (refine And.intro (by first | omega | (intros; omega) | (intros; exact And.intro (by assumption) (by omega)) | grind) ?_)
        apply k17_; clear k17_
        refine Do.ret ?_
        simp [endQ, rets, ret1, go_sem, hout]
        repeat (refine And.intro (by first | omega | (intros; omega) | (intros; exact And.intro (by assumption) (by omega)) | grind) ?_)
        rw [if_neg g4] at hz
        subst hz
        exact TLe.t (.cons (PLe.iv20 (n := false) (v := l0) (by rw [← hlen]; simp) (PLe.refl _)) (.cons (PLe.refl _) (.cons (PLe.refl _) .nil)))
  | true =>
    have hSd : Does Tryz.prog Gv 89 [.c (.b true)] (.v (.c (.i .i64 1))) := @side_does true
    have hCm := hCm (lim bi.toNat s true) (by omega)
    generalize lim bi.toNat s true = l1 at *
    generalize lim bi.toNat s false = l0 at *
    have hW2 : ak = 0 ∨ ak = 1 → Does Tryz.prog Gv 80 [Nm true (nat av) ae, .c (.i .i64 r)] (.t [.a [.b (decide (sgn true W < 0)), .w false (nat W)], .c (.b ex)]) := fun h => by
      have := hW h
      rw [show Iv (sgn true W) = .a [.b (decide (sgn true W < 0)), .w false (nat (sgn true W).natAbs)] from rfl, hWz] at this
      exact this
    have hlen : (true && decide (0 < ((nat l1).length : Int))) = decide (sgn true l1 < 0) := sgn_neg true l1
    refine Does.of (nt := 72) Tryz.func32 rfl rfl rfl (by simp) ?_
    simp only [argTm, PV.ext, Ce.ext]
    refine Do.seqk fun _ k1_ => ?_
    refine Do.region [1,3,4,5,7,10] true ?_
    simp [go_sem, hout]
    apply k1_; clear k1_
    refine Do.seqk fun _ k2_ => ?_
    refine Do.region [1,3,4,7,10,13] true ?_
    simp [go_sem, hout]
    repeat (refine And.intro (by first | omega | (intros; omega) | (intros; exact And.intro (by assumption) (by omega)) | grind) ?_)
    refine DoL.call true 111 rfl rfl rfl rfl (by first | exact trivial | omega | (simp; done) | (simp; omega)) (hA) rfl (by first | exact .inl rfl | exact .inr rfl) rfl ?_
    simp [go_sem, hout]
    repeat (refine And.intro (by first | omega | (intros; omega) | (intros; exact And.intro (by assumption) (by omega)) | grind) ?_)
    apply k2_; clear k2_
    refine Do.seqk fun _ k3_ => ?_
    refine Do.seqk fun _ k4_ => ?_
    refine Do.region [1,3,4,7,10,13,32] true ?_
    simp [go_sem, hout]
    apply k4_; clear k4_
    refine Do.cond [1,3,4,7,10,13] rfl (fun g1 => ?_) (fun g1 => ?_) <;> simp [go_sem, hout] at g1 ⊢
    refine Do.skip ?_
    simp [go_sem]
    apply k3_; clear k3_
    refine Do.seqk fun _ k5_ => ?_
    refine Do.draw [1,7,10,14] true (by kernel_rfl) ?_
    simp [go_sem, hout]
    refine DoLD.call true 403 rfl rfl rfl rfl (by first | exact trivial | omega | (simp; done) | (simp; omega)) (hL) rfl (by first | exact .inl rfl | exact .inr rfl) rfl ?_
    simp [go_sem, hout]
    repeat (refine And.intro (by first | omega | (intros; omega) | (intros; exact And.intro (by assumption) (by omega)) | kernel_rfl | grind) ?_)
    refine DoLD.call true 406 rfl rfl rfl rfl (by first | exact trivial | omega | (simp; done) | (simp; omega)) (hSd) rfl (by first | exact .inl rfl | exact .inr rfl) rfl ?_
    simp [go_sem, hout]
    repeat (refine And.intro (by first | omega | (intros; omega) | (intros; exact And.intro (by assumption) (by omega)) | kernel_rfl | grind) ?_)
    try (refine And.intro (by kernel_rfl) ?_)
    apply k5_; clear k5_
    refine Do.seqk fun _ k6_ => ?_
    refine Do.seqk fun _ k7_ => ?_
    refine Do.region [1,7,10,14,43] true ?_
    simp [go_sem, hout]
    repeat (refine And.intro (by first | omega | (intros; omega) | (intros; exact And.intro (by assumption) (by omega)) | grind) ?_)
    refine DoL.call true 502 rfl rfl rfl rfl (by first | exact trivial | omega | (simp; done) | (simp; omega)) (number_does20) rfl (by first | exact .inl rfl | exact .inr rfl) rfl ?_
    simp [go_sem, hout]
    apply k7_; clear k7_
    refine Do.cond [1,7,10,14] rfl (fun g2 => ?_) (fun g2 => ?_) <;> simp [go_sem, hout] at g2 ⊢
    · refine Do.seqk fun _ k8_ => ?_
      refine Do.region [7,10,14,15,16] true ?_
      simp [go_sem, hout]
      repeat (refine And.intro (by first | omega | (intros; omega) | (intros; exact And.intro (by assumption) (by omega)) | grind) ?_)
      refine DoL.call true 602 rfl rfl rfl rfl (by first | exact trivial | omega | (simp; done) | (simp; omega)) (Of_does) rfl (by first | exact .inl rfl | exact .inr rfl) rfl ?_
      simp [go_sem, hout]
      refine DoL.call true 604 rfl rfl rfl rfl (by first | exact trivial | omega | (simp; done) | (simp; omega)) (hW2 (by omega)) rfl (by first | exact .inl rfl | exact .inr rfl) rfl ?_
      simp [go_sem, hout]
      repeat (refine And.intro (by first | omega | (intros; omega) | (intros; exact And.intro (by assumption) (by omega)) | grind) ?_)
      apply k8_; clear k8_
      refine Do.seqk fun _ k9_ => ?_
      refine Do.region [7,10,14,15,16,55] true ?_
      simp [go_sem, hout]
      repeat (refine And.intro (by first | omega | (intros; omega) | (intros; exact And.intro (by assumption) (by omega)) | grind) ?_)
      refine DoL.call true 704 rfl rfl rfl rfl (by first | exact trivial | omega | (simp; done) | (simp; omega)) (hCm (by omega)) rfl (by first | exact .inl rfl | exact .inr rfl) rfl ?_
      simp [go_sem, hout]
      apply k9_; clear k9_
      refine Do.cond [7,10,14,15,16] rfl (fun g3 => ?_) (fun g3 => ?_) <;> simp [go_sem, hout] at g3 ⊢
      · refine Do.seqk fun _ k10_ => ?_
        refine Do.draw [10,11,12] true (by kernel_rfl) ?_
        simp [go_sem, hout]
        repeat (refine And.intro (by first | omega | (intros; omega) | (intros; exact And.intro (by assumption) (by omega)) | kernel_rfl | grind) ?_)
        refine DoLD.call true 803 rfl rfl rfl rfl (by first | exact trivial | omega | (simp; done) | (simp; omega)) (hFl) rfl (by first | exact .inl rfl | exact .inr rfl) rfl ?_
        simp [go_sem, hout]
        repeat (refine And.intro (by first | omega | (intros; omega) | (intros; exact And.intro (by assumption) (by omega)) | kernel_rfl | grind) ?_)
        try (refine And.intro (by kernel_rfl) ?_)
        apply k10_; clear k10_
        refine Do.ret ?_
        simp [endQ, rets, ret1, go_sem, hout]
        repeat (refine And.intro (by first | omega | (intros; omega) | (intros; exact And.intro (by assumption) (by omega)) | grind) ?_)
        rw [if_pos ⟨by omega, by split at g3 <;> (try split at g3) <;> omega⟩] at hz
        subst hz
        exact TLe.t (.cons (PLe.iv20 rfl (PLe.refl _)) (.cons (PLe.refl _) (.cons (PLe.refl _) .nil)))
      · have hno : ¬ W ≤ l1 := fun h => by rw [if_neg (show ¬ _ by omega)] at g3; split at g3 <;> omega
        rw [if_neg (fun h => hno h.2)] at hz
        refine Do.skip ?_
        simp [go_sem]
        apply k6_; clear k6_
        refine Do.seqk fun _ k11_ => ?_
        refine Do.seqk fun _ k12_ => ?_
        refine Do.region [7,10,14,61] true ?_
        simp [go_sem, hout]
        repeat (refine And.intro (by first | omega | (intros; omega) | (intros; exact And.intro (by assumption) (by omega)) | grind) ?_)
        apply k12_; clear k12_
        refine Do.cond [7,10,14] rfl (fun g4 => ?_) (fun g4 => ?_) <;> simp [go_sem, hout] at g4 ⊢
        · omega
        · refine Do.skip ?_
          simp [go_sem]
          apply k11_; clear k11_
          refine Do.seqk fun _ k13_ => ?_
          refine Do.region [10,11,12] true ?_
          simp [go_sem, hout]
          repeat (refine And.intro (by first | omega | (intros; omega) | (intros; exact And.intro (by assumption) (by omega)) | grind) ?_)
          apply k13_; clear k13_
          refine Do.ret ?_
          simp [endQ, rets, ret1, go_sem, hout]
          repeat (refine And.intro (by first | omega | (intros; omega) | (intros; exact And.intro (by assumption) (by omega)) | grind) ?_)
          rw [if_neg g4] at hz
          subst hz
          exact TLe.t (.cons (PLe.iv20 (n := true) (v := l1) (by rw [← hlen]; simp) (PLe.refl _)) (.cons (PLe.refl _) (.cons (PLe.refl _) .nil)))
    · rw [if_neg (fun h => by omega)] at hz
      refine Do.skip ?_
      simp [go_sem]
      apply k6_; clear k6_
      refine Do.seqk fun _ k14_ => ?_
      refine Do.seqk fun _ k15_ => ?_
      refine Do.region [7,10,14,61] true ?_
      simp [go_sem, hout]
      repeat (refine And.intro (by first | omega | (intros; omega) | (intros; exact And.intro (by assumption) (by omega)) | grind) ?_)
      apply k15_; clear k15_
      refine Do.cond [7,10,14] rfl (fun g4 => ?_) (fun g4 => ?_) <;> simp [go_sem, hout] at g4 ⊢
      · refine Do.seqk fun _ k16_ => ?_
        refine Do.region [10,11,12] true ?_
        simp [go_sem, hout]
        repeat (refine And.intro (by first | omega | (intros; omega) | (intros; exact And.intro (by assumption) (by omega)) | grind) ?_)
        apply k16_; clear k16_
        refine Do.ret ?_
        simp [endQ, rets, ret1, go_sem, hout]
        repeat (refine And.intro (by first | omega | (intros; omega) | (intros; exact And.intro (by assumption) (by omega)) | grind) ?_)
        rw [if_pos g4] at hz
        subst hz
        exact TLe.t (.cons ple_int0 (.cons (PLe.refl _) (.cons (PLe.refl _) .nil)))
      · refine Do.skip ?_
        simp [go_sem]
        apply k14_; clear k14_
        refine Do.seqk fun _ k17_ => ?_
        refine Do.region [10,11,12] true ?_
        simp [go_sem, hout]
        repeat (refine And.intro (by first | omega | (intros; omega) | (intros; exact And.intro (by assumption) (by omega)) | grind) ?_)
        apply k17_; clear k17_
        refine Do.ret ?_
        simp [endQ, rets, ret1, go_sem, hout]
        repeat (refine And.intro (by first | omega | (intros; omega) | (intros; exact And.intro (by assumption) (by omega)) | grind) ?_)
        rw [if_neg g4] at hz
        subst hz
        exact TLe.t (.cons (PLe.iv20 (n := true) (v := l1) (by rw [← hlen]; simp) (PLe.refl _)) (.cons (PLe.refl _) (.cons (PLe.refl _) .nil)))
end
theorem RToBits_does {G : Gl} {r : Int} (hr : 0 ≤ r) (hr' : r ≤ 4) {x : Fla} (hx : Rt x) {a : Flt} (ha : rcanon x.flt = a) (hk4 : a.k = 0 ∨ a.k = 1 ∨ a.k = 2 ∨ a.k = 3) {bi : Int} {s : Bool} (h1 : 1 ≤ bi) (h2 : bi ≤ 4096) (hok : a.k = 0 ∨ a.k = 1 → a.e.toNat + bl a.v ≤ 100000) : Does Tryz.prog G 33 [.c (.i .i64 r), Fl x.k x.n x.e x.m, .c (.i .i64 bi), .c (.b s)] (.t [Iv (bitsP r a bi.toNat s).1, .c (.i .i64 (bitsP r a bi.toNat s).2)]) := by
  have hE := @Rends_does G bi.toNat s (by omega) (by omega)
  rw [show ((bi.toNat : Nat) : Int) = bi by omega] at hE
  have hlb0 := lim_bl (show bi.toNat ≤ 4096 by omega) s false
  have hlb1 := lim_bl (show bi.toNat ≤ 4096 by omega) s true
  have i0 : Does Tryz.prog G 91 [.c (.i .i64 0)] (.v (Iv 0)) := @IFrom_does G 0 (by decide)
  have hT := fun h => @RToInt_does G r hr hr' x hx a ha h
  have hxk : a.k = x.k := by rw [← ha, rcanon_k]; rfl
  have hxn : a.n = x.n := by rw [← ha, rcanon_n]; rfl
  have hwb2 := wholeP_bl r ⟨a.n, a.v, a.e⟩
  simp only [] at hwb2
  have hz : bitsP r a bi.toNat s = bitsP r a bi.toNat s := rfl
  conv at hz => rhs; unfold bitsP
  generalize bitsP r a bi.toNat s = z at *
  have hWz : (sgn a.n (wholeP r ⟨a.n, a.v, a.e⟩).1).natAbs = (wholeP r ⟨a.n, a.v, a.e⟩).1 := sgn_abs _ _
  have hC1 := fun (h : a.k = 0 ∨ a.k = 1) => @IvCmp G (sgn a.n (wholeP r ⟨a.n, a.v, a.e⟩).1) (-(lim bi.toNat s true : Int)) (by unfold Bz; rw [hWz]; have := hok h; omega) (by unfold Bz; rw [Int.natAbs_neg, Int.natAbs_natCast]; omega)
  have hC2 := fun (h : a.k = 0 ∨ a.k = 1) => @IvCmp G (sgn a.n (wholeP r ⟨a.n, a.v, a.e⟩).1) (lim bi.toNat s false : Int) (by unfold Bz; rw [hWz]; have := hok h; omega) (by unfold Bz; rw [Int.natAbs_natCast]; omega)
  have hsn : sgn a.n (lim bi.toNat s a.n) = if a.n then -(lim bi.toNat s true : Int) else (lim bi.toNat s false : Int) := by cases a.n <;> rfl
  have hcond : (wholeP r ⟨a.n, a.v, a.e⟩).1 ≤ lim bi.toNat s a.n ↔ (-(lim bi.toNat s true : Int) ≤ sgn a.n (wholeP r ⟨a.n, a.v, a.e⟩).1 ∧ sgn a.n (wholeP r ⟨a.n, a.v, a.e⟩).1 ≤ (lim bi.toNat s false : Int)) := by
    generalize (wholeP r ⟨a.n, a.v, a.e⟩).1 = W
    cases a.n
    · simp only [sgn, Bool.false_eq_true, if_false]; omega
    · simp only [sgn, if_true]; omega
  have hneg : sgn a.n (wholeP r ⟨a.n, a.v, a.e⟩).1 < 0 → a.n = true := by
    cases a.n
    · simp only [sgn, Bool.false_eq_true, if_false]; omega
    · intro _; rfl
  have hposi : 0 < sgn a.n (wholeP r ⟨a.n, a.v, a.e⟩).1 → a.n = false := by
    cases a.n
    · intro _; rfl
    · simp only [sgn, if_true]; omega
  generalize (if (wholeP r ⟨a.n, a.v, a.e⟩).2 = true then (0 : Int) else 1) = fl at *
  generalize hZe : sgn a.n (wholeP r ⟨a.n, a.v, a.e⟩).1 = Z at *
  generalize (lim bi.toNat s a.n) = la at *
  have hl1p : 0 ≤ ((lim bi.toNat s true : Nat) : Int) := by omega
  have hl0p : 0 ≤ ((lim bi.toNat s false : Nat) : Int) := by omega
  clear hlb0 hlb1
  generalize ((lim bi.toNat s true : Nat) : Int) = l1 at *
  generalize ((lim bi.toNat s false : Nat) : Int) = l0 at *
  generalize (wholeP r ⟨a.n, a.v, a.e⟩).1 = W at *
  rw [hsn] at hz
  rw [hxn] at hz hneg hposi
  generalize hlw : -l1 = lw at *
  have hs1 : ∀ u v : Int, (u - v).sign < 0 ↔ u < v := fun u v => by rw [Int.sign_neg_iff]; omega
  have hs2 : ∀ u v : Int, 0 < (u - v).sign ↔ v < u := fun u v => by rw [Int.sign_pos_iff]; omega
  refine Does.of (nt := 59) Tryz.func33 rfl rfl rfl (by simp) ?_
  simp only [argTm, PV.ext, Ce.ext]
  refine Do.seqk fun _ k1_ => ?_
  refine Do.region [0,2,3,5,8] true ?_
  simp [go_sem]
  apply k1_; clear k1_
  refine Do.seqk fun _ k2_ => ?_
  refine Do.region [0,5,8,10,11] true ?_
  simp [go_sem]
  refine DoL.call true 103 rfl rfl rfl rfl (by first | exact trivial | omega | (simp; done) | (simp; omega)) (hE) rfl (by first | exact .inl rfl | exact .inr rfl) rfl ?_
  simp [go_sem]
  repeat (refine And.intro (by first | omega | (intros; omega) | (intros; exact And.intro (by assumption) (by omega)) | grind) ?_)
  apply k2_; clear k2_
  refine Do.seqk fun _ k3_ => ?_
  refine Do.block ?_
  refine Do.seqk fun _ k4_ => ?_
  refine Do.region [0,5,8,10,11,20] true ?_
  simp [go_sem]
  repeat (refine And.intro (by first | omega | (intros; omega) | (intros; exact And.intro (by assumption) (by omega)) | grind) ?_)
  apply k4_; clear k4_
  refine Do.cond [0,5,8,10,11] rfl (fun g1 => ?_) (fun g1 => ?_) <;> simp [go_sem] at g1 ⊢
  · refine Do.seqk fun _ k5_ => ?_
    refine Do.region [8,9] true ?_
    simp [go_sem]
    refine DoL.call true 301 rfl rfl rfl rfl (by first | exact trivial | omega | (simp; done) | (simp; omega)) (i0) rfl (by first | exact .inl rfl | exact .inr rfl) rfl ?_
    simp [go_sem]
    repeat (refine And.intro (by first | omega | (intros; omega) | (intros; exact And.intro (by assumption) (by omega)) | grind) ?_)
    apply k5_; clear k5_
    refine Do.ret ?_
    simp [endQ, rets, ret1, go_sem]
    repeat (refine And.intro (by first | omega | (intros; omega) | (intros; exact And.intro (by assumption) (by omega)) | grind) ?_)
    rw [if_neg (by omega), if_pos (by omega)] at hz
    subst hz
    exact TLe.refl _
  · refine Do.seqk fun _ k6_ => ?_
    refine Do.region [0,5,8,10,11,25] true ?_
    simp [go_sem]
    repeat (refine And.intro (by first | omega | (intros; omega) | (intros; exact And.intro (by assumption) (by omega)) | grind) ?_)
    apply k6_; clear k6_
    refine Do.cond [0,5,8,10,11] rfl (fun g2 => ?_) (fun g2 => ?_) <;> simp [go_sem] at g2 ⊢
    · refine Do.seqk fun _ k7_ => ?_
      refine Do.region [8,9] true ?_
      simp [go_sem]
      repeat (refine And.intro (by first | omega | (intros; omega) | (intros; exact And.intro (by assumption) (by omega)) | grind) ?_)
      apply k7_; clear k7_
      refine Do.ret ?_
      simp [endQ, rets, ret1, go_sem]
      repeat (refine And.intro (by first | omega | (intros; omega) | (intros; exact And.intro (by assumption) (by omega)) | grind) ?_)
      rw [if_neg (by omega), if_neg (by omega), if_pos g2.2] at hz
      subst hz
      exact TLe.refl _
    · refine Do.seqk fun _ k8_ => ?_
      refine Do.region [0,5,8,10,11,34] true ?_
      simp [go_sem]
      repeat (refine And.intro (by first | omega | (intros; omega) | (intros; exact And.intro (by assumption) (by omega)) | grind) ?_)
      apply k8_; clear k8_
      refine Do.cond [0,5,8,10,11] rfl (fun g3 => ?_) (fun g3 => ?_) <;> simp [go_sem] at g3 ⊢
      · refine Do.seqk fun _ k9_ => ?_
        refine Do.region [8,9] true ?_
        simp [go_sem]
        repeat (refine And.intro (by first | omega | (intros; omega) | (intros; exact And.intro (by assumption) (by omega)) | grind) ?_)
        apply k9_; clear k9_
        refine Do.ret ?_
        simp [endQ, rets, ret1, go_sem]
        repeat (refine And.intro (by first | omega | (intros; omega) | (intros; exact And.intro (by assumption) (by omega)) | grind) ?_)
        rw [if_neg (by omega), if_neg (by omega), if_neg (by rw [g2 g3]; decide)] at hz
        subst hz
        exact TLe.refl _
      · refine Do.skip ?_
        simp [go_sem]
        apply k3_; clear k3_
        refine Do.seqk fun _ k10_ => ?_
        refine Do.region [8,10,11,12,13] true ?_
        simp [go_sem]
        repeat (refine And.intro (by first | omega | (intros; omega) | (intros; exact And.intro (by assumption) (by omega)) | grind) ?_)
        refine DoL.call true 803 rfl rfl rfl rfl (by first | exact trivial | omega | (simp; done) | (simp; omega)) (hT (by omega)) rfl (by first | exact .inl rfl | exact .inr rfl) rfl ?_
        simp [go_sem]
        repeat (refine And.intro (by first | omega | (intros; omega) | (intros; exact And.intro (by assumption) (by omega)) | grind) ?_)
        apply k10_; clear k10_
        refine Do.seqk fun _ k11_ => ?_
        refine Do.block ?_
        refine Do.seqk fun _ k12_ => ?_
        refine Do.region [8,10,11,12,13,45] true ?_
        simp [go_sem]
        repeat (refine And.intro (by first | omega | (intros; omega) | (intros; exact And.intro (by assumption) (by omega)) | grind) ?_)
        refine DoL.call true 903 rfl rfl rfl rfl (by first | exact trivial | omega | (simp; done) | (simp; omega)) (hC1 (by omega)) rfl (by first | exact .inl rfl | exact .inr rfl) rfl ?_
        simp [go_sem]
        apply k12_; clear k12_
        refine Do.cond [8,10,11,12,13] rfl (fun g4 => ?_) (fun g4 => ?_) <;> simp [go_sem, hs1, hs2] at g4 ⊢
        · refine Do.seqk fun _ k13_ => ?_
          refine Do.region [8,9] true ?_
          simp [go_sem, hs1, hs2]
          repeat (refine And.intro (by first | omega | (intros; omega) | (intros; exact And.intro (by assumption) (by omega)) | grind) ?_)
          apply k13_; clear k13_
          refine Do.ret ?_
          simp [endQ, rets, ret1, go_sem, hs1, hs2]
          repeat (refine And.intro (by first | omega | (intros; omega) | (intros; exact And.intro (by assumption) (by omega)) | grind) ?_)
          rw [if_neg (fun h => by have := hcond.1 h.2; omega), if_neg (by omega), if_pos (hneg (by omega))] at hz
          subst hz
          exact TLe.refl _
        · refine Do.seqk fun _ k14_ => ?_
          refine Do.region [8,11,12,13,51] true ?_
          simp [go_sem, hs1, hs2]
          repeat (refine And.intro (by first | omega | (intros; omega) | (intros; exact And.intro (by assumption) (by omega)) | grind) ?_)
          refine DoL.call true 1103 rfl rfl rfl rfl (by first | exact trivial | omega | (simp; done) | (simp; omega)) (hC2 (by omega)) rfl (by first | exact .inl rfl | exact .inr rfl) rfl ?_
          simp [go_sem, hs1, hs2]
          apply k14_; clear k14_
          refine Do.cond [8,11,12,13] rfl (fun g5 => ?_) (fun g5 => ?_) <;> simp [go_sem, hs1, hs2] at g5 ⊢
          · refine Do.seqk fun _ k15_ => ?_
            refine Do.region [8,9] true ?_
            simp [go_sem, hs1, hs2]
            repeat (refine And.intro (by first | omega | (intros; omega) | (intros; exact And.intro (by assumption) (by omega)) | grind) ?_)
            apply k15_; clear k15_
            refine Do.ret ?_
            simp [endQ, rets, ret1, go_sem, hs1, hs2]
            repeat (refine And.intro (by first | omega | (intros; omega) | (intros; exact And.intro (by assumption) (by omega)) | grind) ?_)
            rw [if_neg (fun h => by have := hcond.1 h.2; omega), if_neg (by omega), if_neg (by rw [hposi (by omega)]; decide)] at hz
            subst hz
            exact TLe.refl _
          · refine Do.skip ?_
            simp [go_sem]
            apply k11_; clear k11_
            refine Do.seqk fun _ k16_ => ?_
            refine Do.region [8,9] true ?_
            simp [go_sem, hs1, hs2]
            repeat (refine And.intro (by first | omega | (intros; omega) | (intros; exact And.intro (by assumption) (by omega)) | grind) ?_)
            apply k16_; clear k16_
            refine Do.ret ?_
            simp [endQ, rets, ret1, go_sem, hs1, hs2]
            repeat (refine And.intro (by first | omega | (intros; omega) | (intros; exact And.intro (by assumption) (by omega)) | grind) ?_)
            rw [if_pos ⟨by omega, hcond.2 ⟨by omega, by omega⟩⟩] at hz
            subst hz
            exact TLe.refl _
end Go.Proofs.YtokgalpflooegaaGreatDoor
