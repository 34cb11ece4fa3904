/- Rounded to odd by the reference, joined. No condition. The law ConvertOdds. No condition. -/
import Derived.Test.YtokgalpflooegaaGreatDoorMo
import Derived.Test.YtokgalpflooegaaGreatDoorMk
/- Rounded to odd by the reference, joined. No condition. -/
namespace Go.Proofs.YtokgalpflooegaaGreatDoor
set_option linter.unusedVariables false
set_option linter.unusedSimpArgs false
set_option maxHeartbeats 8000000
set_option maxRecDepth 10000
variable {G : Gl}
/-- Rounded to odd, by the reference. -/
def oddR (f p : Int) (n : Bool) (m d : List Nat) (K : Nat) : Flt × Int :=
  if val m = 0 then (⟨0, false, 0, 0⟩, 0) else oddP f p n (quoM (val m) (val d) K) (-(K : Int)) (quoS (val m) (val d) K)
theorem sgn_ng {n : Bool} {v : Nat} (h : 0 < v) : decide (sgn n v < 0) = n := by
  cases n
  · simp [sgn]
  · simp [sgn]; omega
theorem cmp_scale {z1 z2 W : Int} {d1 d2 v d K g : Nat} (hg : 0 < g) (hd2 : 0 < d2) (h1 : z1 * (g : Int) = v) (h2 : d1 * g = d) (h3 : z2 * ((2 ^ K : Nat) : Int) = W * (d2 : Int)) : 0 < (z1 * d2 - z2 * d1).sign ↔ W * (d : Int) < (v : Int) * ((2 ^ K : Nat) : Int) := by
  rw [Int.sign_pos_iff, Int.sub_pos]
  have hK : (0 : Int) < ((2 ^ K : Nat) : Int) := by have := two_pos' K; omega
  have hG : (0 : Int) < (g : Int) := by omega
  have hD : (0 : Int) < (d2 : Int) := by omega
  have e1 : z2 * d1 * g * ((2 ^ K : Nat) : Int) = W * d * d2 := by
    rw [← h2, Int.natCast_mul]
    calc z2 * d1 * g * ((2 ^ K : Nat) : Int) = z2 * ((2 ^ K : Nat) : Int) * (d1 * g) := by ac_rfl
      _ = W * d2 * (d1 * g) := by rw [h3]
      _ = W * (d1 * g) * d2 := by ac_rfl
  have e2 : z1 * d2 * g * ((2 ^ K : Nat) : Int) = v * ((2 ^ K : Nat) : Int) * d2 := by
    rw [← h1]; ac_rfl
  rw [← Int.mul_lt_mul_right hG, ← Int.mul_lt_mul_right hK, e1, e2, Int.mul_lt_mul_right hD]
theorem ROdd_does {f p : Int} (hf : fmOk f p = true) {n : Bool} {m d : List Nat} (hm : m.length ≤ 3000) (wm : Ws m) (hd : d.length ≤ 3000) (wd : Ws d) (h0 : 0 < val d) {K : Nat} (hK : 20000 + bl (val d) ≤ K) (hK2 : K ≤ 400000) :
    Does Tryz.prog G 22 [Fm f p, Qw n m d] (.t [(oddR f p n m d K).1.pv, .c (.i .i64 (oddR f p n m d K).2)]) := by
  obtain ⟨b1, b2, b3, b4⟩ := fmOk_spec hf
  obtain ⟨b5, b6⟩ := gOfE_le b1 b2
  unfold oddR
  by_cases hv0 : val m = 0
  · rw [if_pos hv0]
    have hOf := @ROfD_zero G n m d hm wm hd wd h0 hv0
    have hIn := @In_does G f p 0 0 false (nat 0) hf (by rw [nat_zero]; decide) (nat_ws _) (by constructor <;> decide)
    rw [val_nat, show inP f p ⟨0, false, 0, 0⟩ = true by simp [inP]] at hIn
    exact ROdd_in hOf hIn
  · rw [if_neg hv0]
    have hv : 0 < val m := by omega
    have bm := bl_le_len wm (Nat.le_refl (val m))
    have bd := bl_le_len wd (Nat.le_refl (val d))
    have hen := @quo_enough (val m) (val d) K p hv h0 (by omega) (by omega)
    have hMb : bl (quoM (val m) (val d) K) ≤ 600000 := by
      have h1 := bl_mono (Nat.div_le_self (val m * 2 ^ K) (val d))
      rw [bl_mul_pow _ _ hv] at h1
      unfold quoM
      omega
    have hE := fun g => (@exact_flags f p g hf n (quoM (val m) (val d) K) (-(K : Int)) (quoS (val m) (val d) K) (by omega))
    obtain ⟨f1, f2, f3, f4, f5, f6, f7⟩ := @cut_facts f p hf (quoM (val m) (val d) K) (-(K : Int)) (quoS (val m) (val d) K) (by omega)
    have hstep : stepP f p (-(K : Int) + bl (quoM (val m) (val d) K) - 1) = if -(K : Int) + bl (quoM (val m) (val d) K) - 1 < 1 - gOfE f then 1 - gOfE f - (p - 1) else -(K : Int) + bl (quoM (val m) (val d) K) - 1 - p + 1 := rfl
    -- is it a float of the format?
    have key : ∃ (y : Flt) (ok inb : Bool), Does Tryz.prog G 68 [Qw n m d] (.t [y.pw, .c (.b ok)]) ∧ Does Tryz.prog G 69 [Fm f p, y.pv] (.v (.c (.b inb))) ∧
        ((ok = true ∧ inb = true) ↔ ((cutP (quoM (val m) (val d) K) (stepP f p (-(K : Int) + bl (quoM (val m) (val d) K) - 1) - -(K : Int)) (quoS (val m) (val d) K)).2 = 0 ∧ -(K : Int) + bl (quoM (val m) (val d) K) - 1 ≤ gOfE f)) ∧
        ((ok = true ∧ inb = true) → y = mkP n (cutP (quoM (val m) (val d) K) (stepP f p (-(K : Int) + bl (quoM (val m) (val d) K) - 1) - -(K : Int)) (quoS (val m) (val d) K)).1 (stepP f p (-(K : Int) + bl (quoM (val m) (val d) K) - 1))) := by
      cases hs : quoS (val m) (val d) K with
      | true =>
        have hOf := @ROfD_no G n m d K hm wm hd wd h0 hv (by omega) hs
        have hIn := @In_does G f p 0 0 false (nat 0) hf (by rw [nat_zero]; decide) (nat_ws _) (by constructor <;> decide)
        rw [val_nat] at hIn
        refine ⟨_, _, _, hOf, hIn, ?_, fun h => by simp at h⟩
        constructor
        · intro h; simp at h
        · rintro ⟨h, _⟩
          exfalso
          obtain ⟨k, hk⟩ : ∃ k : Nat, stepP f p (-(K : Int) + bl (quoM (val m) (val d) K) - 1) - -(K : Int) = k := ⟨(stepP f p (-(K : Int) + bl (quoM (val m) (val d) K) - 1) - -(K : Int)).toNat, by omega⟩
          rw [hk] at h
          have := ((@cutP_pos (quoM (val m) (val d) K) k true (by omega)).2.1 h).1
          simp at this
      | false =>
        have hOf := @ROfD_yes G n m d K hm wm hd wd h0 hv (by omega) hs
        have hM0 : 0 < quoM (val m) (val d) K := by
          apply Nat.pos_of_ne_zero
          intro h
          rw [h, bl_zero] at hen; omega
        rw [hs] at hE
        obtain ⟨i1, i2⟩ := @inP_flags f p hf (-(K : Int)) (sgn n (quoM (val m) (val d) K)) ⟨n, quoM (val m) (val d) K, -(K : Int)⟩ (Int.le_refl _) (by
          unfold Nu.sv sgn
          simp only [Int.sub_self, Int.toNat_zero, Nat.pow_zero, Nat.mul_one])
        have e1 : Nu.round ⟨n, quoM (val m) (val d) K, -(K : Int)⟩ f p 0 false = roundP f p 0 n (quoM (val m) (val d) K) (-(K : Int)) false := by
          unfold Nu.round
          simp only []
          rw [if_neg (by omega)]
        rw [e1] at i1 i2
        obtain ⟨j1, j2⟩ := hE 0
        have htz := tz_lt_bl hM0
        have hy : ∀ D : Int, D.natAbs = quoM (val m) (val d) K → Md (restP (-(K : Int)) D).e ∧ (nat (restP (-(K : Int)) D).v).length ≤ 1000000 := by
          intro D hD
          unfold restP
          split
          · refine ⟨by constructor <;> simp, ?_⟩
            simp [nat_zero]
          · unfold rcanon
            simp only [if_true]
            rw [hD]
            refine ⟨by constructor <;> omega, ?_⟩
            have h1 := bl_mono (Nat.div_le_self (quoM (val m) (val d) K) (2 ^ tz (quoM (val m) (val d) K)))
            exact Nat.le_trans (nat_len_bl _) (by omega)
        obtain ⟨y1, y2⟩ := hy (sgn n (quoM (val m) (val d) K)) (sgn_abs _ _)
        generalize restP (-(K : Int)) (sgn n (quoM (val m) (val d) K)) = y at *
        have hIn := @In_does G f p y.k y.e y.n (nat y.v) hf (by omega) (nat_ws _) y1
        rw [val_nat] at hIn
        refine ⟨y, true, inP f p y, hOf, hIn, ?_, ?_⟩
        · constructor
          · rintro ⟨_, h⟩
            refine j1 ?_
            rw [i1 h]
          · intro h
            refine ⟨rfl, i2 ?_⟩
            rw [j2 h]
        · rintro ⟨_, h⟩
          have h2 := i1 h
          have h3 := j2 (j1 (by rw [h2]))
          rw [h2] at h3
          exact congrArg Prod.fst h3
    obtain ⟨y, ok, inb, hOf, hIn, hiff, hy⟩ := key
    have hto := @top_over f p hf (val m) (val d) K (gOfE f - p + 1 + K).toNat h0 (by omega) (by omega) (by omega)
    by_cases hin : (cutP (quoM (val m) (val d) K) (stepP f p (-(K : Int) + bl (quoM (val m) (val d) K) - 1) - -(K : Int)) (quoS (val m) (val d) K)).2 = 0 ∧ -(K : Int) + bl (quoM (val m) (val d) K) - 1 ≤ gOfE f
    · obtain ⟨rfl, rfl⟩ := hiff.2 hin
      have e := hy ⟨rfl, rfl⟩
      have := ROdd_in hOf hIn
      unfold oddP
      simp only []
      rw [if_neg (by omega), if_pos hin.1, ← e]
      exact this
    · have hno : ¬ (ok = true ∧ inb = true) := fun h => hin (hiff.1 h)
      have hto := hto hin
      clear hy hiff hE
      have hO := @ROfD G n m d (by omega) wm (by omega) wd
      rw [sgn_ng hv] at hO
      have hT := @Top_does G f p hf
      have hA := @QAbsD G n m d hm wm hd wd h0
      have hfi : Fine ⟨1, false, gOfE f - p + 1, 2 ^ p.toNat - 1⟩ := by
        rw [← mk_full (n := false) (u := gOfE f - p + 1) (show 2 ≤ p.toNat by omega)]
        have := bl_ones2 p.toNat
        exact mkP_fine (by omega) (by omega) (by omega)
      obtain ⟨z2, d2, hR, hDq⟩ := @FRat G _ hfi.rt K (by omega) (fun _ => by show -(K : Int) ≤ gOfE f - p + 1; omega)
      rw [Flt.fla_flt] at hDq
      have hR : Does Tryz.prog G 40 [Fl 1 false (gOfE f - p + 1) (nat (2 ^ p.toNat - 1))] (.v (Qv z2 d2)) := hR
      have hfv : fv (-(K : Int)) ⟨1, false, gOfE f - p + 1, 2 ^ p.toNat - 1⟩ = (((2 ^ p.toNat - 1) * 2 ^ (gOfE f - p + 1 + K).toNat : Nat) : Int) := by
        unfold fv Nu.sv
        simp only [if_true, Bool.false_eq_true, if_false]
        rw [show gOfE f - p + 1 - -(K : Int) = gOfE f - p + 1 + K by omega]
      rw [hfv] at hDq
      obtain ⟨s1, s2, s3⟩ := hDq.small
      have hWb : bl (((2 ^ p.toNat - 1) * 2 ^ (gOfE f - p + 1 + K).toNat : Nat) : Int).natAbs ≤ 600000 := by
        rw [Int.natAbs_natCast, bl_mul_pow _ _ (by
          have : 2 ^ 1 ≤ 2 ^ p.toNat := Nat.pow_le_pow_right (by decide) (by omega)
          omega), bl_ones2]
        omega
      have gpos : 0 < Nat.gcd (val m : Int).natAbs (val d) := Nat.gcd_pos_of_pos_right _ h0
      have hz1b : bl (nz (val m : Int) (val d)).natAbs ≤ 192000 := by
        rw [nz_abs, Int.natAbs_natCast]
        have := bl_mono (Nat.div_le_self (val m) (Nat.gcd (val m) (val d)))
        omega
      have hd1b : bl (nd (val m : Int) (val d)) ≤ 192000 := by
        have h3 := nd_mul (val m : Int) (val d)
        have h4 : nd (val m : Int) (val d) ≤ val d := Nat.le_of_dvd h0 ⟨_, h3.symm⟩
        have := bl_mono h4
        omega
      have hC := @QCmpD G (nz (val m : Int) (val d)) z2 (nd (val m : Int) (val d)) d2 (by omega) (by omega) (by omega) (by omega)
      have hcs := @cmp_scale (nz (val m : Int) (val d)) z2 _ (nd (val m : Int) (val d)) d2 (val m) (val d) K _ gpos hDq.pos (nz_mul _ _) (nd_mul _ _) hDq.eq
      have hcs2 : ((((2 ^ p.toNat - 1) * 2 ^ (gOfE f - p + 1 + K).toNat : Nat) : Int) * (val d : Int) < (val m : Int) * ((2 ^ K : Nat) : Int)) ↔ (2 ^ p.toNat - 1) * 2 ^ (gOfE f - p + 1 + K).toNat * val d < val m * 2 ^ K := by
        rw [← Int.natCast_mul, ← Int.natCast_mul, Int.ofNat_lt]
      rw [hcs2, ← hto] at hcs
      clear hcs2 hto hDq hfv hWb s1 s2 s3
      unfold oddP
      simp only []
      by_cases hov : gOfE f < -(K : Int) + bl (quoM (val m) (val d) K) - 1 ∨ ((cutP (quoM (val m) (val d) K) (stepP f p (-(K : Int) + bl (quoM (val m) (val d) K) - 1) - -(K : Int)) (quoS (val m) (val d) K)).1 = 2 ^ p.toNat - 1 ∧ stepP f p (-(K : Int) + bl (quoM (val m) (val d) K) - 1) = gOfE f - p + 1)
      · have hres := ROdd_over hno hOf hIn hO hT hA hR hC (hcs.2 hov)
        by_cases hg : gOfE f < -(K : Int) + bl (quoM (val m) (val d) K) - 1
        · rw [if_pos hg]; exact hres
        · rw [if_neg hg, if_neg (fun h => hin ⟨h, by omega⟩), if_pos (by
            rcases hov with h | h
            · exact absurd h hg
            · exact h)]
          exact hres
      · have hg : ¬ gOfE f < -(K : Int) + bl (quoM (val m) (val d) K) - 1 := fun h => hov (.inl h)
        rw [if_neg hg, if_neg (fun h => hin ⟨h, by omega⟩), if_neg (fun h => hov (.inr h))]
        have hEE : (bl (quoM (val m) (val d) K) : Int) - 1 - K = -(K : Int) + bl (quoM (val m) (val d) K) - 1 := by omega
        have hSt := @RStepD G f p hf n m d hm wm hd wd h0 hv K (by omega)
        have hX := @RExpD G n (val m) (val d) K hv h0 (by omega) (by omega) (by omega)
        rw [hEE] at hSt hX
        have hL := @RLeast_does G f p hf
        have hub : -100000 ≤ stepP f p (-(K : Int) + bl (quoM (val m) (val d) K) - 1) ∧ stepP f p (-(K : Int) + bl (quoM (val m) (val d) K) - 1) ≤ 100000 := by
          rw [hstep]; split <;> omega
        obtain ⟨hh, tt, hS, _⟩ := @StepsD G n (val m) (val d) K (stepP f p (-(K : Int) + bl (quoM (val m) (val d) K) - 1)) h0 (by omega) (by omega) (by omega) (by omega) (by omega)
        rw [show stepP f p (-(K : Int) + bl (quoM (val m) (val d) K) - 1) + (K : Int) = stepP f p (-(K : Int) + bl (quoM (val m) (val d) K) - 1) - -(K : Int) by omega] at hS
        exact ROdd_fin hno hOf hIn hO hT hA hR hC (fun h => hov (hcs.1 h)) hSt hS (by omega) (by constructor <;> omega) hX hL
end Go.Proofs.YtokgalpflooegaaGreatDoor
/- The law ConvertOdds. No condition. -/
namespace Go.Proofs.YtokgalpflooegaaGreatDoor
set_option linter.unusedVariables false
set_option linter.unusedSimpArgs false
set_option maxHeartbeats 8000000
set_option maxRecDepth 10000
/-- The rational number as one element of a list. -/
abbrev Qs (n : Bool) (m d : List Nat) : PV := .s false [[.b n, .w false m, .w false d]]
theorem BriefQ {n : Bool} {m d : List Nat} : Does Tryz.prog Gv 19 [Qs n m d] (.v (.c (.b (decide (m.length ≤ 40) && decide (d.length ≤ 40))))) := by
  refine Does.of (nt := 27) Tryz.func19 rfl rfl rfl (by simp) ?_
  simp only [argTm, PV.ext, Ce.ext]
  refine Do.seqk fun _ k1_ => ?_
  refine Do.region [0] true ?_
  simp [go_sem]
  apply k1_; clear k1_
  refine Do.seqk fun _ k2_ => ?_
  refine Do.seqk fun _ k3_ => ?_
  refine Do.region [0,3] true ?_
  simp [go_sem]
  apply k3_; clear k3_
  refine Do.block ?_
  refine Do.loopF [0,3] (fun (i : Nat) => [(3, .int .i64 i)]) (fun (i : Nat) => []) (fun (i : Nat) => i ≤ 1 ∧ (0 < i → m.length ≤ 40 ∧ d.length ≤ 40)) (fun (i : Nat) => 1 - i) (0) (fun _ => by first | (simp [go_sem, mixS]; done) | (simp [go_sem, mixS]; rfl)) (St.le_of (by first | rfl | simp [keep]) (by first | rfl | simp [keep])) (⟨by omega, by omega⟩) ?_
  rintro i ⟨hi, hs⟩
  refine Do.seqk fun _ k4_ => ?_
  refine Do.seqk fun _ k5_ => ?_
  refine Do.region [0,3,7] true ?_
  simp [go_sem]
  repeat (refine And.intro (by first | omega | (intros; omega) | grind) ?_)
  apply k5_; clear k5_
  refine Do.cond [0,3] rfl (fun g1 => ?_) (fun g1 => ?_) <;> simp [go_sem] at g1 ⊢
  · obtain rfl : i = 0 := by omega
    refine Do.skip ?_
    simp [go_sem]
    apply k4_; clear k4_
    refine Do.seqk fun _ k6_ => ?_
    refine Do.block ?_
    refine Do.seqk fun _ k7_ => ?_
    refine Do.region [0,3,26] true ?_
    simp [go_sem, List.length_cons, List.length_nil]
    repeat (refine And.intro (by first | omega | (intros; omega) | grind) ?_)
    apply k7_; clear k7_
    refine Do.cond [0,3] rfl (fun g2 => ?_) (fun g2 => ?_) <;> simp [go_sem, List.length_cons, List.length_nil] at g2 ⊢
    · refine Do.seqk fun _ k8_ => ?_
      refine Do.region [2] true ?_
      simp [go_sem, List.length_cons, List.length_nil]
      apply k8_; clear k8_
      refine Do.ret ?_
      simp [endQ, rets, ret1, go_sem, List.length_cons, List.length_nil]
      repeat (refine And.intro (by first | omega | (intros; omega) | grind) ?_)
      exact ret_b (by simp; omega)
    · refine Do.skip ?_
      simp [go_sem]
      apply k6_; clear k6_
      refine Do.region [0,3] true ?_
      simp [go_sem, List.length_cons, List.length_nil]
      repeat (refine And.intro (by first | omega | (intros; omega) | grind) ?_)
      refine ⟨1, St.le_of (by first | rfl | simp [keep]) (by first | rfl | simp [keep]), ⟨by omega, by omega⟩, by simp⟩
  · obtain rfl : i = 1 := by omega
    obtain ⟨h1, h2⟩ := hs (by omega)
    refine Do.exit ?_
    simp [go_sem]
    apply k2_; clear k2_
    refine Do.seqk fun _ k9_ => ?_
    refine Do.region [2] true ?_
    simp [go_sem]
    apply k9_; clear k9_
    refine Do.ret ?_
    simp [endQ, rets, ret1, go_sem]
    repeat (refine And.intro (by first | omega | (intros; omega) | grind) ?_)
    exact ret_b (by simp [h1, h2])
theorem RLargeQ {n : Bool} {m d : List Nat} (hm : Sh m) (hd : Sh d) : Does Tryz.prog Gv 66 [Qw n m d] (.v (.c (.b (decide (4096 < (m.length : Int)) || decide (4096 < (d.length : Int)))))) := by
  have h1 := @NLarge_does Gv m hm
  have h2 := @NLarge_does Gv d hd
  generalize decide (4096 < (m.length : Int)) = b1 at *
  generalize decide (4096 < (d.length : Int)) = b2 at *
  cases b1 with
  | true =>
    refine Does.of (nt := 12) Tryz.func66 rfl rfl rfl (by simp) ?_
    simp only [argTm, PV.ext, Ce.ext]
    refine Do.seqk fun _ k1_ => ?_
    refine Do.region [1] true ?_
    simp [go_sem]
    apply k1_; clear k1_
    refine Do.seqk fun _ k2_ => ?_
    refine Do.region [2] true ?_
    simp [go_sem]
    repeat (refine And.intro (by first | omega | (intros; omega) | grind) ?_)
    refine DoL.call true 104 rfl rfl rfl rfl (by first | exact trivial | omega | (simp; done) | (simp; omega)) (h1) rfl (by first | exact .inl rfl | exact .inr rfl) rfl ?_
    simp [go_sem]
    repeat (refine And.intro (by first | omega | (intros; omega) | grind) ?_)
    refine DoL.gOff true 108 rfl rfl (.v (.c (.b false))) rfl ?_
    simp [go_sem]
    apply k2_; clear k2_
    refine Do.ret ?_
    simp [endQ, rets, ret1, go_sem]
    repeat (refine And.intro (by first | omega | (intros; omega) | grind) ?_)
    exact TLe.refl _
  | false =>
    refine Does.of (nt := 12) Tryz.func66 rfl rfl rfl (by simp) ?_
    simp only [argTm, PV.ext, Ce.ext]
    refine Do.seqk fun _ k1_ => ?_
    refine Do.region [1] true ?_
    simp [go_sem]
    apply k1_; clear k1_
    refine Do.seqk fun _ k2_ => ?_
    refine Do.region [2] true ?_
    simp [go_sem]
    repeat (refine And.intro (by first | omega | (intros; omega) | grind) ?_)
    refine DoL.call true 104 rfl rfl rfl rfl (by first | exact trivial | omega | (simp; done) | (simp; omega)) (h1) rfl (by first | exact .inl rfl | exact .inr rfl) rfl ?_
    simp [go_sem]
    repeat (refine And.intro (by first | omega | (intros; omega) | grind) ?_)
    refine DoL.callg true 108 rfl rfl rfl rfl rfl (by simp [go_sem] <;> omega) (fun _ => h2) rfl (by first | exact .inl rfl | exact .inr rfl) rfl ?_
    simp [go_sem]
    apply k2_; clear k2_
    refine Do.ret ?_
    simp [endQ, rets, ret1, go_sem]
    repeat (refine And.intro (by first | omega | (intros; omega) | grind) ?_)
    exact TLe.refl _
theorem RArgsQ {r : Int} {n : Bool} {m d : List Nat} (hm : Sh m) (wm : Ws m) (hd : Sh d) (wd : Ws d) (hd2 : d.length ≤ 1073741824) : Does Tryz.prog Gv 21 [.c (.i .i64 r), Qs n m d] (.int .i64 (checkQ r m d)) := by
  have hz : checkQ r m d = checkQ r m d := rfl
  conv at hz => rhs; unfold checkQ
  generalize checkQ r m d = z at *
  have hL := @RLargeQ n m d hm hd
  have hZ := @IsZero_does Gv d hd2 wd
  have hR := @Known_does Gv r
  refine Does.of (nt := 33) Tryz.func21 rfl rfl rfl (by simp) ?_
  simp only [argTm, PV.ext, Ce.ext]
  refine Do.seqk fun _ k1_ => ?_
  refine Do.region [0,1] true ?_
  simp [go_sem]
  apply k1_; clear k1_
  refine Do.seqk fun _ k2_ => ?_
  refine Do.seqk fun _ k3_ => ?_
  refine Do.region [0,1,5] true ?_
  simp [go_sem]
  apply k3_; clear k3_
  refine Do.block ?_
  refine Do.loopF [0,1,5] (fun (i : Nat) => [(5, .int .i64 i)]) (fun (i : Nat) => []) (fun (i : Nat) => i ≤ 1 ∧ (0 < i → ¬ (4096 < m.length ∨ 4096 < d.length))) (fun (i : Nat) => 1 - i) (0) (fun _ => by first | (simp [go_sem, mixS]; done) | (simp [go_sem, mixS]; rfl)) (St.le_of (by first | rfl | simp [keep]) (by first | rfl | simp [keep])) (⟨by omega, by omega⟩) ?_
  rintro i ⟨hi, hs⟩
  refine Do.seqk fun _ k4_ => ?_
  refine Do.seqk fun _ k5_ => ?_
  refine Do.region [0,1,5,10] true ?_
  simp [go_sem]
  repeat (refine And.intro (by first | omega | (intros; omega) | grind) ?_)
  apply k5_; clear k5_
  refine Do.cond [0,1,5] rfl (fun g1 => ?_) (fun g1 => ?_) <;> simp [go_sem] at g1 ⊢
  · obtain rfl : i = 0 := by omega
    refine Do.skip ?_
    simp [go_sem]
    apply k4_; clear k4_
    refine Do.seqk fun _ k6_ => ?_
    refine Do.block ?_
    refine Do.seqk fun _ k7_ => ?_
    refine Do.region [0,1,5,17] true ?_
    simp [go_sem, List.length_cons, List.length_nil]
    repeat (refine And.intro (by first | omega | (intros; omega) | grind) ?_)
    refine DoL.call true 405 rfl rfl rfl rfl (by first | exact trivial | omega | (simp; done) | (simp; omega)) (hL) rfl (by first | exact .inl rfl | exact .inr rfl) rfl ?_
    simp [go_sem, List.length_cons, List.length_nil]
    apply k7_; clear k7_
    refine Do.cond [0,1,5] rfl (fun g2 => ?_) (fun g2 => ?_) <;> simp [go_sem, List.length_cons, List.length_nil] at g2 ⊢
    · refine Do.seqk fun _ k8_ => ?_
      refine Do.region [4] true ?_
      simp [go_sem, List.length_cons, List.length_nil]
      apply k8_; clear k8_
      refine Do.ret ?_
      simp [endQ, rets, ret1, go_sem, List.length_cons, List.length_nil]
      repeat (refine And.intro (by first | omega | (intros; omega) | grind) ?_)
      rw [if_pos (by omega)] at hz
      subst hz
      exact TLe.refl _
    · refine Do.skip ?_
      simp [go_sem]
      apply k6_; clear k6_
      refine Do.region [0,1,5] true ?_
      simp [go_sem, List.length_cons, List.length_nil]
      repeat (refine And.intro (by first | omega | (intros; omega) | grind) ?_)
      refine ⟨1, St.le_of (by first | rfl | simp [keep]) (by first | rfl | simp [keep]), ⟨by omega, by omega⟩, by simp⟩
  · obtain rfl : i = 1 := by omega
    have hs := hs (by omega)
    rw [if_neg hs] at hz
    refine Do.exit ?_
    simp [go_sem]
    apply k2_; clear k2_
    refine Do.seqk fun _ k9_ => ?_
    refine Do.seqk fun _ k10_ => ?_
    refine Do.region [0,1,6] true ?_
    simp [go_sem]
    apply k10_; clear k10_
    refine Do.block ?_
    refine Do.loopF [0,1,6] (fun (j : Nat) => [(6, .int .i64 j)]) (fun (j : Nat) => []) (fun (j : Nat) => j ≤ 1 ∧ (0 < j → val d ≠ 0)) (fun (j : Nat) => 1 - j) (0) (fun _ => by first | (simp [go_sem, mixS]; done) | (simp [go_sem, mixS]; rfl)) (St.le_of (by first | rfl | simp [keep]) (by first | rfl | simp [keep])) (⟨by omega, by omega⟩) ?_
    rintro j ⟨hj, hs2⟩
    refine Do.seqk fun _ k11_ => ?_
    refine Do.seqk fun _ k12_ => ?_
    refine Do.region [0,1,6,21] true ?_
    simp [go_sem]
    repeat (refine And.intro (by first | omega | (intros; omega) | grind) ?_)
    apply k12_; clear k12_
    refine Do.cond [0,1,6] rfl (fun g3 => ?_) (fun g3 => ?_) <;> simp [go_sem] at g3 ⊢
    · obtain rfl : j = 0 := by omega
      refine Do.skip ?_
      simp [go_sem]
      apply k11_; clear k11_
      refine Do.seqk fun _ k13_ => ?_
      refine Do.block ?_
      refine Do.seqk fun _ k14_ => ?_
      refine Do.region [0,1,6,29] true ?_
      simp [go_sem, List.length_cons, List.length_nil]
      repeat (refine And.intro (by first | omega | (intros; omega) | grind) ?_)
      refine DoL.call true 906 rfl rfl rfl rfl (by first | exact trivial | omega | (simp; done) | (simp; omega)) (hZ) rfl (by first | exact .inl rfl | exact .inr rfl) rfl ?_
      simp [go_sem, List.length_cons, List.length_nil]
      apply k14_; clear k14_
      refine Do.cond [0,1,6] rfl (fun g4 => ?_) (fun g4 => ?_) <;> simp [go_sem, List.length_cons, List.length_nil] at g4 ⊢
      · refine Do.seqk fun _ k15_ => ?_
        refine Do.region [4] true ?_
        simp [go_sem, List.length_cons, List.length_nil]
        apply k15_; clear k15_
        refine Do.ret ?_
        simp [endQ, rets, ret1, go_sem, List.length_cons, List.length_nil]
        repeat (refine And.intro (by first | omega | (intros; omega) | grind) ?_)
        rw [if_pos g4] at hz
        subst hz
        exact TLe.refl _
      · refine Do.skip ?_
        simp [go_sem]
        apply k13_; clear k13_
        refine Do.region [0,1,6] true ?_
        simp [go_sem, List.length_cons, List.length_nil]
        repeat (refine And.intro (by first | omega | (intros; omega) | grind) ?_)
        refine ⟨1, St.le_of (by first | rfl | simp [keep]) (by first | rfl | simp [keep]), ⟨by omega, fun _ => g4⟩, by simp⟩
    · obtain rfl : j = 1 := by omega
      rw [if_neg (hs2 (by omega))] at hz
      refine Do.exit ?_
      simp [go_sem]
      apply k9_; clear k9_
      refine Do.seqk fun _ k16_ => ?_
      refine Do.seqk fun _ k17_ => ?_
      refine Do.region [32] true ?_
      simp [go_sem]
      refine DoL.call true 1102 rfl rfl rfl rfl (by first | exact trivial | omega | (simp; done) | (simp; omega)) (hR) rfl (by first | exact .inl rfl | exact .inr rfl) rfl ?_
      simp [go_sem]
      repeat (refine And.intro (by first | omega | (intros; omega) | grind) ?_)
      apply k17_; clear k17_
      refine Do.cond [] rfl (fun g5 => ?_) (fun g5 => ?_) <;> simp [go_sem] at g5 ⊢
      · refine Do.seqk fun _ k18_ => ?_
        refine Do.region [4] true ?_
        simp [go_sem]
        apply k18_; clear k18_
        refine Do.ret ?_
        simp [endQ, rets, ret1, go_sem]
        repeat (refine And.intro (by first | omega | (intros; omega) | grind) ?_)
        rw [if_neg (by omega)] at hz
        subst hz
        exact TLe.refl _
      · refine Do.skip ?_
        simp [go_sem]
        apply k16_; clear k16_
        refine Do.seqk fun _ k19_ => ?_
        refine Do.region [4] true ?_
        simp [go_sem]
        apply k19_; clear k19_
        refine Do.ret ?_
        simp [endQ, rets, ret1, go_sem]
        repeat (refine And.intro (by first | omega | (intros; omega) | grind) ?_)
        rw [if_pos (by omega)] at hz
        subst hz
        exact TLe.refl _
theorem oddP_fine {f p : Int} (hf : fmOk f p = true) {n : Bool} {M : Nat} {e : Int} {st : Bool} (hM : p + 2 ≤ bl M) : Fine (oddP f p n M e st).1 ∧ rcanon (oddP f p n M e st).1 = (oddP f p n M e st).1 := by
  obtain ⟨b1, b2, b3, b4⟩ := fmOk_spec hf
  obtain ⟨b5, b6⟩ := gOfE_le b1 b2
  obtain ⟨f1, f2, f3, f4, f5, f6, f7⟩ := @cut_facts f p hf M e st hM
  have hstep : stepP f p (e + bl M - 1) = if e + bl M - 1 < 1 - gOfE f then 1 - gOfE f - (p - 1) else e + bl M - 1 - p + 1 := rfl
  have hfull : (⟨1, n, gOfE f - p + 1, 2 ^ p.toNat - 1⟩ : Flt) = mkP n (2 ^ p.toNat - 1) (gOfE f - p + 1) := (mk_full (by omega)).symm
  have hones := bl_ones2 p.toNat
  have main : ∃ q u, (oddP f p n M e st).1 = mkP n q u ∧ -1048576 ≤ u ∧ u + bl q ≤ 1048576 ∧ bl q ≤ 100000 := by
    unfold oddP
    simp only []
    generalize stepP f p (e + bl M - 1) = u at *
    generalize cutP M (u - e) st = c at *
    split
    · exact ⟨_, _, hfull, by omega, by omega, by omega⟩
    · rename_i hE
      have hu : u ≤ gOfE f - p + 1 := by split at hstep <;> omega
      split
      · exact ⟨_, _, rfl, by omega, by omega, by omega⟩
      · split
        · exact ⟨_, _, hfull, by omega, by omega, by omega⟩
        · refine ⟨_, _, rfl, by omega, ?_⟩
          by_cases h0 : c.1 = 0
          · rw [h0]
            have e0 : bl (oddN 0) = 1 := by decide
            rw [e0]; omega
          · rw [oddN_bl h0]; omega
  obtain ⟨q, u, e1, h1, h2, h3⟩ := main
  rw [e1]
  exact ⟨mkP_fine h1 h2 h3, mkP_fix⟩
theorem ConvertOdds_does {f p : Int} {n : Bool} {m d : List Nat} (wm : Ws m) (wd : Ws d) : Does Tryz.prog Gv 4 [Fm f p, Qr n m d] (.v (.c (.b true))) := by
  have hS := @BriefQ n m d
  cases hs : (decide (m.length ≤ 40) && decide (d.length ≤ 40)) with
  | false =>
    rw [hs] at hS
    refine Does.of (nt := 61) Tryz.func4 rfl rfl rfl (by simp) ?_
    simp only [argTm, PV.ext, Ce.ext]
    refine Do.seqk fun _ k1_ => ?_
    refine Do.region [2,3] true ?_
    simp [go_sem]
    apply k1_; clear k1_
    refine Do.seqk fun _ k2_ => ?_
    refine Do.seqk fun _ k3_ => ?_
    refine Do.region [2,3,14] true ?_
    simp [go_sem]
    repeat (refine And.intro (by first | omega | (intros; omega) | grind) ?_)
    refine DoL.sealS true 102 101 rfl ?_
    simp [go_sem]
    refine DoL.call true 103 rfl rfl rfl rfl (by first | exact trivial | omega | (simp; done) | (simp; omega)) (hS) rfl (by first | exact .inl rfl | exact .inr rfl) rfl ?_
    simp [go_sem]
    repeat (refine And.intro (by first | omega | (intros; omega) | grind) ?_)
    apply k3_; clear k3_
    refine Do.cond [2,3] rfl (fun h => ?_) (fun h => ?_) <;> simp [go_sem] at h ⊢
    refine Do.seqk fun _ k4_ => ?_
    refine Do.region [4] true ?_
    simp [go_sem]
    refine DoL.call true 201 rfl rfl rfl rfl (by first | exact trivial | omega | (simp; done) | (simp; omega)) (awake20_does) rfl (by first | exact .inl rfl | exact .inr rfl) rfl ?_
    simp [go_sem]
    apply k4_; clear k4_
    refine Do.ret ?_
    simp [endQ, rets, ret1, go_sem]
    repeat (refine And.intro (by first | omega | (intros; omega) | grind) ?_)
    exact TLe.refl _
  | true =>
    rw [hs] at hS
    have hl : m.length ≤ 40 ∧ d.length ≤ 40 := by simpa using hs
    obtain ⟨l1, l2⟩ := hl
    have bd := bl_le_len wd (Nat.le_refl (val d))
    have hT := @Odd_does f p n m d (by unfold Sh; omega) wm (by unfold Sh; omega) wd (20000 + bl (val d)) (by omega)
    have hA := @RArgsQ 0 n m d (by unfold Sh; omega) wm (by unfold Sh; omega) wd (by omega)
    have hRt := @RRightF_does Gv f p
    have e02 : checkQ 2 m d = checkQ 0 m d := by unfold checkQ; simp
    unfold oddD at hT
    rw [e02] at hT
    by_cases hc : checkQ 0 m d = 0
    · rw [if_neg (by omega)] at hT
      rw [hc] at hA
      cases hf : fmOk f p with
      | false =>
        rw [hf, if_pos rfl] at hT
        rw [hf] at hRt
        have hF := @Fits_none 0 0 false [] 0 150 ⟨rfl, rfl, rfl, rfl⟩ (by decide) 150
        have hT : Does Tryz.prog Gv 20 [Fm f p, Qr n m d] (.t [Fl 0 false 0 (nat 0), .c (.i .i64 0), .c (.i .i64 150)]) := hT
        rw [nat_zero] at hT
        refine Does.of (nt := 61) Tryz.func4 rfl rfl rfl (by simp) ?_
        simp only [argTm, PV.ext, Ce.ext]
        refine Do.seqk fun _ k1_ => ?_
        refine Do.region [2,3] true ?_
        simp [go_sem]
        apply k1_; clear k1_
        refine Do.seqk fun _ k2_ => ?_
        refine Do.seqk fun _ k3_ => ?_
        refine Do.region [2,3,14] true ?_
        simp [go_sem]
        repeat (refine And.intro (by first | omega | (intros; omega) | grind) ?_)
        refine DoL.sealS true 102 101 rfl ?_
        simp [go_sem]
        refine DoL.call true 103 rfl rfl rfl rfl (by first | exact trivial | omega | (simp; done) | (simp; omega)) (hS) rfl (by first | exact .inl rfl | exact .inr rfl) rfl ?_
        simp [go_sem]
        repeat (refine And.intro (by first | omega | (intros; omega) | grind) ?_)
        apply k3_; clear k3_
        refine Do.cond [2,3] rfl (fun h => ?_) (fun h => ?_) <;> simp [go_sem] at h ⊢
        refine Do.skip ?_
        simp [go_sem]
        apply k2_; clear k2_
        refine Do.seqk fun _ k4_ => ?_
        refine Do.region [2,3,5,6,7] true ?_
        simp [go_sem]
        repeat (refine And.intro (by first | omega | (intros; omega) | grind) ?_)
        refine DoL.call true 303 rfl rfl rfl rfl (by first | exact trivial | omega | (simp; done) | (simp; omega)) (hT) rfl (by first | exact .inl rfl | exact .inr rfl) rfl ?_
        simp [go_sem]
        repeat (refine And.intro (by first | omega | (intros; omega) | grind) ?_)
        apply k4_; clear k4_
        refine Do.seqk fun _ k5_ => ?_
        refine Do.region [2,3,5,6,7,8] true ?_
        simp [go_sem]
        repeat (refine And.intro (by first | omega | (intros; omega) | grind) ?_)
        refine DoL.sealS true 402 401 rfl ?_
        simp [go_sem]
        refine DoL.call true 403 rfl rfl rfl rfl (by first | exact trivial | omega | (simp; done) | (simp; omega)) (hA) rfl (by first | exact .inl rfl | exact .inr rfl) rfl ?_
        simp [go_sem]
        apply k5_; clear k5_
        refine Do.seqk fun _ k6_ => ?_
        refine Do.seqk fun _ k7_ => ?_
        refine Do.region [2,3,5,6,7,8,33] true ?_
        simp [go_sem]
        repeat (refine And.intro (by first | omega | (intros; omega) | grind) ?_)
        refine DoL.callg true 505 rfl rfl rfl rfl rfl (by simp [go_sem] <;> omega) (fun _ => Fmt_does) rfl (by first | exact .inl rfl | exact .inr rfl) rfl ?_
        simp [go_sem]
        refine DoL.callg true 506 rfl rfl rfl rfl rfl (by simp [go_sem] <;> omega) (fun _ => hRt) rfl (by first | exact .inl rfl | exact .inr rfl) rfl ?_
        simp [go_sem]
        repeat (refine And.intro (by first | omega | (intros; omega) | grind) ?_)
        apply k7_; clear k7_
        refine Do.cond [2,3,5,6,7,8] rfl (fun h => ?_) (fun h => ?_) <;> simp [go_sem] at h ⊢
        refine Do.region [2,3,5,6,7,8] true ?_
        simp [go_sem]
        apply k6_; clear k6_
        refine Do.seqk fun _ k8_ => ?_
        refine Do.seqk fun _ k9_ => ?_
        refine Do.region [2,3,5,6,7,8,35] true ?_
        simp [go_sem]
        apply k9_; clear k9_
        refine Do.cond [2,3,5,6,7,8] rfl (fun h => ?_) (fun h => ?_) <;> simp [go_sem] at h ⊢
        refine Do.seqk fun _ k10_ => ?_
        refine Do.region [4] true ?_
        simp [go_sem]
        repeat (refine And.intro (by first | omega | (intros; omega) | grind) ?_)
        refine DoL.call true 806 rfl rfl rfl rfl (by first | exact trivial | omega | (simp; done) | (simp; omega)) (hF) rfl (by first | exact .inl rfl | exact .inr rfl) rfl ?_
        simp [go_sem]
        refine DoL.callg true 808 rfl rfl rfl rfl rfl (by simp [go_sem] <;> omega) (fun _ => awake20_does) rfl (by first | exact .inl rfl | exact .inr rfl) rfl ?_
        simp [go_sem]
        apply k10_; clear k10_
        refine Do.ret ?_
        simp [endQ, rets, ret1, go_sem]
        repeat (refine And.intro (by first | omega | (intros; omega) | grind) ?_)
        exact TLe.refl _
      | true =>
        rw [hf, if_neg (by simp)] at hT
        rw [hf] at hRt
        obtain ⟨c1, c2, c3, c4, c5⟩ := checkQ_zero hc
        obtain ⟨b1, b2, b3, b4⟩ := fmOk_spec hf
        have hO := @ROdd_does Gv f p hf n m d (by omega) wm (by omega) wd (by omega) (20000 + bl (val d)) (by omega) (by omega)
        have hfine : Fine (oddR f p n m d (20000 + bl (val d))).1 ∧ rcanon (oddR f p n m d (20000 + bl (val d))).1 = (oddR f p n m d (20000 + bl (val d))).1 := by
          unfold oddR
          split
          · exact ⟨fine_zero, rfl⟩
          · have hen := @quo_enough (val m) (val d) (20000 + bl (val d)) p (by omega) (by omega) (by omega) (by omega)
            exact oddP_fine hf (by omega)
        have hF := @Fits_same Gv (oddR f p n m d (20000 + bl (val d))).1 (oddR f p n m d (20000 + bl (val d))).2 hfine.1 hfine.2
        have hT : Does Tryz.prog Gv 20 [Fm f p, Qr n m d] (.t [(oddR f p n m d (20000 + bl (val d))).1.pv, .c (.i .i64 (oddR f p n m d (20000 + bl (val d))).2), .c (.i .i64 0)]) := by
          unfold oddR
          split at hT
          · rename_i h; rw [if_pos h]; exact hT
          · rename_i h; rw [if_neg h]; exact hT
        generalize oddR f p n m d (20000 + bl (val d)) = z at *
        refine Does.of (nt := 61) Tryz.func4 rfl rfl rfl (by simp) ?_
        simp only [argTm, PV.ext, Ce.ext]
        refine Do.seqk fun _ k1_ => ?_
        refine Do.region [2,3] true ?_
        simp [go_sem]
        apply k1_; clear k1_
        refine Do.seqk fun _ k2_ => ?_
        refine Do.seqk fun _ k3_ => ?_
        refine Do.region [2,3,14] true ?_
        simp [go_sem]
        repeat (refine And.intro (by first | omega | (intros; omega) | grind) ?_)
        refine DoL.sealS true 102 101 rfl ?_
        simp [go_sem]
        refine DoL.call true 103 rfl rfl rfl rfl (by first | exact trivial | omega | (simp; done) | (simp; omega)) (hS) rfl (by first | exact .inl rfl | exact .inr rfl) rfl ?_
        simp [go_sem]
        repeat (refine And.intro (by first | omega | (intros; omega) | grind) ?_)
        apply k3_; clear k3_
        refine Do.cond [2,3] rfl (fun h => ?_) (fun h => ?_) <;> simp [go_sem] at h ⊢
        refine Do.skip ?_
        simp [go_sem]
        apply k2_; clear k2_
        refine Do.seqk fun _ k4_ => ?_
        refine Do.region [2,3,5,6,7] true ?_
        simp [go_sem]
        repeat (refine And.intro (by first | omega | (intros; omega) | grind) ?_)
        refine DoL.call true 303 rfl rfl rfl rfl (by first | exact trivial | omega | (simp; done) | (simp; omega)) (hT) rfl (by first | exact .inl rfl | exact .inr rfl) rfl ?_
        simp [go_sem]
        repeat (refine And.intro (by first | omega | (intros; omega) | grind) ?_)
        apply k4_; clear k4_
        refine Do.seqk fun _ k5_ => ?_
        refine Do.region [2,3,5,6,7,8] true ?_
        simp [go_sem]
        repeat (refine And.intro (by first | omega | (intros; omega) | grind) ?_)
        refine DoL.sealS true 402 401 rfl ?_
        simp [go_sem]
        refine DoL.call true 403 rfl rfl rfl rfl (by first | exact trivial | omega | (simp; done) | (simp; omega)) (hA) rfl (by first | exact .inl rfl | exact .inr rfl) rfl ?_
        simp [go_sem]
        apply k5_; clear k5_
        refine Do.seqk fun _ k6_ => ?_
        refine Do.seqk fun _ k7_ => ?_
        refine Do.region [2,3,5,6,7,8,33] true ?_
        simp [go_sem]
        repeat (refine And.intro (by first | omega | (intros; omega) | grind) ?_)
        refine DoL.callg true 505 rfl rfl rfl rfl rfl (by simp [go_sem] <;> omega) (fun _ => Fmt_does) rfl (by first | exact .inl rfl | exact .inr rfl) rfl ?_
        simp [go_sem]
        refine DoL.callg true 506 rfl rfl rfl rfl rfl (by simp [go_sem] <;> omega) (fun _ => hRt) rfl (by first | exact .inl rfl | exact .inr rfl) rfl ?_
        simp [go_sem]
        repeat (refine And.intro (by first | omega | (intros; omega) | grind) ?_)
        apply k7_; clear k7_
        refine Do.cond [2,3,5,6,7,8] rfl (fun h => ?_) (fun h => ?_) <;> simp [go_sem] at h ⊢
        refine Do.skip ?_
        simp [go_sem]
        apply k6_; clear k6_
        refine Do.seqk fun _ k8_ => ?_
        refine Do.seqk fun _ k9_ => ?_
        refine Do.region [2,3,5,6,7,8,35] true ?_
        simp [go_sem]
        apply k9_; clear k9_
        refine Do.cond [2,3,5,6,7,8] rfl (fun h => ?_) (fun h => ?_) <;> simp [go_sem] at h ⊢
        refine Do.skip ?_
        simp [go_sem]
        apply k8_; clear k8_
        refine Do.seqk fun _ k10_ => ?_
        refine Do.draw [5,6,7,9,10] true (by kernel_rfl) ?_
        simp [go_sem]
        repeat (refine And.intro (by first | omega | (intros; omega) | kernel_rfl | grind) ?_)
        refine DoLD.call true 902 rfl rfl rfl rfl (by first | exact trivial | omega | (simp; done) | (simp; omega)) (Fmt_does) rfl (by first | exact .inl rfl | exact .inr rfl) rfl ?_
        simp [go_sem]
        repeat (refine And.intro (by first | omega | (intros; omega) | kernel_rfl | grind) ?_)
        refine DoLD.call true 904 rfl rfl rfl rfl (by first | exact trivial | omega | (simp; done) | (simp; omega)) (hO) rfl (by first | exact .inl rfl | exact .inr rfl) rfl ?_
        simp [go_sem]
        repeat (refine And.intro (by first | omega | (intros; omega) | kernel_rfl | grind) ?_)
        try (refine And.intro (by kernel_rfl) ?_)
        apply k10_; clear k10_
        refine Do.seqk fun _ k11_ => ?_
        refine Do.region [4] true ?_
        simp [go_sem]
        repeat (refine And.intro (by first | omega | (intros; omega) | grind) ?_)
        refine DoL.call true 1006 rfl rfl rfl rfl (by first | exact trivial | omega | (simp; done) | (simp; omega)) (hF) rfl (by first | exact .inl rfl | exact .inr rfl) rfl ?_
        simp [go_sem]
        refine DoL.callg true 1008 rfl rfl rfl rfl rfl (by simp [go_sem] <;> omega) (fun _ => awake20_does) rfl (by first | exact .inl rfl | exact .inr rfl) rfl ?_
        simp [go_sem]
        apply k11_; clear k11_
        refine Do.ret ?_
        simp [endQ, rets, ret1, go_sem]
        repeat (refine And.intro (by first | omega | (intros; omega) | grind) ?_)
        exact TLe.refl _
    · rw [if_pos hc] at hT
      have hF := @Fits_none 0 0 false [] 0 (checkQ 0 m d) ⟨rfl, rfl, rfl, rfl⟩ hc (checkQ 0 m d)
      generalize checkQ 0 m d = z at *
      have hT : Does Tryz.prog Gv 20 [Fm f p, Qr n m d] (.t [Fl 0 false 0 (nat 0), .c (.i .i64 0), .c (.i .i64 z)]) := hT
      rw [nat_zero] at hT
      have hz1 : (z == 0) = false := by simpa using hc
      have hz2 : (z != 0) = true := by simpa using hc
      refine Does.of (nt := 61) Tryz.func4 rfl rfl rfl (by simp) ?_
      simp only [argTm, PV.ext, Ce.ext]
      refine Do.seqk fun _ k1_ => ?_
      refine Do.region [2,3] true ?_
      simp [go_sem]
      apply k1_; clear k1_
      refine Do.seqk fun _ k2_ => ?_
      refine Do.seqk fun _ k3_ => ?_
      refine Do.region [2,3,14] true ?_
      simp [go_sem]
      repeat (refine And.intro (by first | omega | (intros; omega) | grind) ?_)
      refine DoL.sealS true 102 101 rfl ?_
      simp [go_sem]
      refine DoL.call true 103 rfl rfl rfl rfl (by first | exact trivial | omega | (simp; done) | (simp; omega)) (hS) rfl (by first | exact .inl rfl | exact .inr rfl) rfl ?_
      simp [go_sem]
      repeat (refine And.intro (by first | omega | (intros; omega) | grind) ?_)
      apply k3_; clear k3_
      refine Do.cond [2,3] rfl (fun h => ?_) (fun h => ?_) <;> simp [go_sem] at h ⊢
      refine Do.skip ?_
      simp [go_sem]
      apply k2_; clear k2_
      refine Do.seqk fun _ k4_ => ?_
      refine Do.region [2,3,5,6,7] true ?_
      simp [go_sem]
      repeat (refine And.intro (by first | omega | (intros; omega) | grind) ?_)
      refine DoL.call true 303 rfl rfl rfl rfl (by first | exact trivial | omega | (simp; done) | (simp; omega)) (hT) rfl (by first | exact .inl rfl | exact .inr rfl) rfl ?_
      simp [go_sem]
      repeat (refine And.intro (by first | omega | (intros; omega) | grind) ?_)
      apply k4_; clear k4_
      refine Do.seqk fun _ k5_ => ?_
      refine Do.region [2,3,5,6,7,8] true ?_
      simp [go_sem]
      repeat (refine And.intro (by first | omega | (intros; omega) | grind) ?_)
      refine DoL.sealS true 402 401 rfl ?_
      simp [go_sem]
      refine DoL.call true 403 rfl rfl rfl rfl (by first | exact trivial | omega | (simp; done) | (simp; omega)) (hA) rfl (by first | exact .inl rfl | exact .inr rfl) rfl ?_
      simp [go_sem]
      apply k5_; clear k5_
      refine Do.seqk fun _ k6_ => ?_
      refine Do.seqk fun _ k7_ => ?_
      refine Do.region [2,3,5,6,7,8,33] true ?_
      simp [go_sem, hz1, hz2]
      repeat (refine And.intro (by first | omega | (intros; omega) | grind) ?_)
      refine DoL.gOff true 505 rfl rfl (.int .i64 0) rfl ?_
      simp [go_sem, hz1, hz2]
      refine DoL.gOff true 506 rfl rfl (.v (.c (.b false))) rfl ?_
      simp [go_sem, hz1, hz2]
      repeat (refine And.intro (by first | omega | (intros; omega) | grind) ?_)
      apply k7_; clear k7_
      refine Do.cond [2,3,5,6,7,8] rfl (fun h => ?_) (fun h => ?_) <;> simp [go_sem, hz1, hz2] at h ⊢
      refine Do.skip ?_
      simp [go_sem]
      apply k6_; clear k6_
      refine Do.seqk fun _ k8_ => ?_
      refine Do.seqk fun _ k9_ => ?_
      refine Do.region [2,3,5,6,7,8,35] true ?_
      simp [go_sem, hz1, hz2]
      apply k9_; clear k9_
      refine Do.cond [2,3,5,6,7,8] rfl (fun h => ?_) (fun h => ?_) <;> simp [go_sem, hz1, hz2] at h ⊢
      refine Do.seqk fun _ k10_ => ?_
      refine Do.region [4] true ?_
      simp [go_sem, hz1, hz2]
      repeat (refine And.intro (by first | omega | (intros; omega) | grind) ?_)
      refine DoL.call true 806 rfl rfl rfl rfl (by first | exact trivial | omega | (simp; done) | (simp; omega)) (hF) rfl (by first | exact .inl rfl | exact .inr rfl) rfl ?_
      simp [go_sem, hz1, hz2]
      refine DoL.callg true 808 rfl rfl rfl rfl rfl (by simp [go_sem] <;> omega) (fun _ => awake20_does) rfl (by first | exact .inl rfl | exact .inr rfl) rfl ?_
      simp [go_sem, hz1, hz2]
      apply k10_; clear k10_
      refine Do.ret ?_
      simp [endQ, rets, ret1, go_sem, hz1, hz2]
      repeat (refine And.intro (by first | omega | (intros; omega) | grind) ?_)
      exact TLe.refl _
end Go.Proofs.YtokgalpflooegaaGreatDoor
