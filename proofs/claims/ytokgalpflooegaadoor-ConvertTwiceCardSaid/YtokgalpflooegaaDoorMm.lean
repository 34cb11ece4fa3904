/- Rounded to odd first: the float is one of the wider format; plain. No condition. -/
import Derived.Test.YtokgalpflooegaaDoorMl
/- Rounded to odd first: the float is one of the wider format; plain. No condition. -/
namespace Go.Proofs.YtokgalpflooegaaDoor
set_option linter.unusedVariables false
set_option linter.unusedSimpArgs false
set_option maxHeartbeats 4000000
set_option maxRecDepth 10000
theorem oddP_mk {f p : Int} (hf : fmOk f p = true) {n : Bool} {M : Nat} {e : Int} {st : Bool} (hM : p + 2 ≤ bl M) : ∃ N u, (oddP f p n M e st).1 = mkP n N u ∧ N ≠ 0 ∧ (bl N : Int) ≤ p ∧ 1 - gOfE f - (p - 1) ≤ u ∧ u + bl N ≤ gOfE f + 1 := by
  obtain ⟨b1, b2, b3, b4⟩ := fmOk_spec hf
  obtain ⟨b5, b6⟩ := gOfE_le b1 b2
  obtain ⟨f1, f2, f3, f4, f5, f6, f7⟩ := @cut_facts f p hf M e st hM
  have hstep : stepP f p (e + bl M - 1) = if e + bl M - 1 < 1 - gOfE f then 1 - gOfE f - (p - 1) else e + bl M - 1 - p + 1 := rfl
  have hfull : (⟨1, n, gOfE f - p + 1, 2 ^ p.toNat - 1⟩ : Flt) = mkP n (2 ^ p.toNat - 1) (gOfE f - p + 1) := (mk_full (by omega)).symm
  have hones := bl_ones2 p.toNat
  have hne : 2 ^ p.toNat - 1 ≠ 0 := by
    intro h
    rw [h, bl_zero] at hones; omega
  unfold oddP
  simp only []
  generalize stepP f p (e + bl M - 1) = u at *
  generalize cutP M (u - e) st = c at *
  split
  · exact ⟨_, _, hfull, hne, by omega, by omega, by omega⟩
  · rename_i hE
    split
    · rename_i hx
      have h0 : c.1 ≠ 0 := fun h => f6 h hx
      have := f4 h0
      exact ⟨_, _, rfl, h0, f3, f2, by omega⟩
    · split
      · exact ⟨_, _, hfull, hne, by omega, by omega, by omega⟩
      · refine ⟨_, _, rfl, by have := oddN_odd c.1; omega, ?_⟩
        by_cases h0 : c.1 = 0
        · have h5 := f5 h0
          rw [if_pos h5] at hstep
          rw [h0]
          have e0 : bl (oddN 0) = 1 := by decide
          rw [e0]; omega
        · have := f4 h0
          rw [oddN_bl h0]; omega
theorem mk_held {f p : Int} (hf : fmOk f p = true) {n : Bool} {N : Nat} {u : Int} (h0 : N ≠ 0) (h1 : (bl N : Int) ≤ p) (h2 : 1 - gOfE f - (p - 1) ≤ u) (h3 : u + bl N ≤ gOfE f + 1) : holdsP f p (mkP n N u) = (mkP n N u, true) := by
  obtain ⟨b1, b2, b3, b4⟩ := fmOk_spec hf
  obtain ⟨b5, b6⟩ := gOfE_le b1 b2
  have hfi : Fine (mkP n N u) := mkP_fine (by omega) (by omega) (by omega)
  have hin : inP f p (mkP n N u) = true := by
    unfold inP
    rw [mkP_fix]
    unfold mkP
    rw [if_neg h0]
    simp only [if_true, Bool.and_eq_true, decide_eq_true_eq]
    have := tz_lt_bl (Nat.pos_of_ne_zero h0)
    rw [bl_div]
    omega
  rw [inP_good hfi.can] at hin
  have hr := (held_rcanon hin).1
  rw [mkP_fix] at hr
  exact Prod.ext hr.symm hin
theorem same_self {x : Flt} (hx : Fine x) : sameP x x = true := by
  unfold sameP
  rw [hx.can]
  simp
/-- The three roundings of the law. -/
theorem twice_all {f p g q r : Int} (hf : fmOk f p = true) (hg : fmOk g q = true) (hpq : p + 2 ≤ q) (hl : 1 - gOfE g ≤ 1 - gOfE f - 2) (hgr : gOfE f ≤ gOfE g) {n : Bool} {m d : List Nat} (hc : checkQ r m d = 0) {K : Nat} (hK : 300 + bl (val d) ≤ K) :
    ∃ x fl y fl2 fl3, oddD g q n m d K = (x, fl, 0) ∧ Fine x ∧ convP g q f p r x.fla = (y, fl2, 0) ∧ roundD f p r n m d K = (y, fl3, 0) ∧ Fine y := by
  obtain ⟨c1, c2, c3, c4, c5⟩ := checkQ_zero hc
  obtain ⟨b1, b2, b3, b4⟩ := fmOk_spec hg
  have hc2 : checkQ 2 m d = 0 := by
    unfold checkQ
    rw [if_neg (by omega), if_neg c3, if_pos (by decide)]
  have hconv : ∀ x : Flt, Fine x → holdsP g q x = (x, true) → convP g q f p r x.fla = ((convA f p r x).1, (convA f p r x).2, 0) := by
    intro x hx hh
    have hlen := len_bl hx.v
    have ha : argsC g q f p r false x.fla = 0 := argsC_ok (by show (nat x.v).length ≤ 4096; omega) c4 c5 hg hf (by rw [Flt.fla_flt, hh])
    unfold convP
    rw [if_pos ha, Flt.fla_flt, hh]
  have eo : oddD g q n m d K = if val m = 0 then (⟨0, false, 0, 0⟩, 0, 0) else ((oddP g q n (quoM (val m) (val d) K) (-(K : Int)) (quoS (val m) (val d) K)).1, (oddP g q n (quoM (val m) (val d) K) (-(K : Int)) (quoS (val m) (val d) K)).2, 0) := by
    unfold oddD
    rw [if_neg (fun h => h hc2), if_neg (by simp [hg])]
  have er : roundD f p r n m d K = if val m = 0 then (⟨0, false, 0, 0⟩, 0, 0) else ((ratP f p r n (val m) (val d) K).1, (ratP f p r n (val m) (val d) K).2, 0) := by
    unfold roundD
    rw [if_neg (fun h => h hc), if_neg (by simp [hf])]
  rw [eo, er]
  by_cases h0 : val m = 0
  · rw [if_pos h0, if_pos h0]
    have hz : holdsP g q ⟨0, false, 0, 0⟩ = (⟨0, false, 0, 0⟩, true) := by unfold holdsP canon; simp
    exact ⟨_, _, _, _, _, rfl, fine_zero, hconv _ fine_zero hz, rfl, fine_zero⟩
  · rw [if_neg h0, if_neg h0]
    have hen := @quo_enough (val m) (val d) K q (by omega) (by omega) (by omega) (by omega)
    obtain ⟨t1, t2, t3⟩ := @twiceP f p g q r hf hg c4 c5 hpq (by omega) (by omega) hgr n (quoM (val m) (val d) K) (-(K : Int)) (quoS (val m) (val d) K) (by omega)
    obtain ⟨N, u, e1, n0, h1, h2, h3⟩ := @oddP_mk g q hg n (quoM (val m) (val d) K) (-(K : Int)) (quoS (val m) (val d) K) (by omega)
    have hfi := (@oddP_fine g q hg n (quoM (val m) (val d) K) (-(K : Int)) (quoS (val m) (val d) K) (by omega)).1
    have hh := @mk_held g q hg n N u n0 h1 h2 h3
    rw [← e1] at hh
    have hv : (oddP g q n (quoM (val m) (val d) K) (-(K : Int)) (quoS (val m) (val d) K)).1.v ≠ 0 := by
      have := canon_one hfi.can t1
      exact this.2.2
    have hy : (convA f p r (oddP g q n (quoM (val m) (val d) K) (-(K : Int)) (quoS (val m) (val d) K)).1).1 = (ratP f p r n (val m) (val d) K).1 := by
      unfold convA Nu.round
      rw [if_pos t1]
      simp only []
      rw [if_neg hv, t2, t3]
      rfl
    refine ⟨_, _, _, _, (ratP f p r n (val m) (val d) K).2, rfl, hfi, hconv _ hfi hh, ?_, ?_⟩
    · rw [hy]
    · rw [hy]; exact roundP_fine hf
end Go.Proofs.YtokgalpflooegaaDoor
