/- The law QuotientOnes. No condition. -/
import Derived.Test.YtbhokdhkfodpfaaDoorMo
import Derived.Test.YtbhokdhkfodpfaaDoorMh
/- The law QuotientOnes. No condition. -/
namespace Go.Proofs.YtbhokdhkfodpfaaDoor
set_option linter.unusedVariables false
set_option linter.unusedSimpArgs false
set_option maxHeartbeats 8000000
set_option maxRecDepth 10000
/-- Other floats of the format among the arguments. -/
theorem argsE_with {f p r : Int} {l m : List Fla} (h : argsE f p r false l = 0) (hs : ∀ u ∈ m, u ∈ l ∨ ((holdsP f p u.flt).2 = true ∧ u.m.length ≤ 4096)) : argsE f p r false m = 0 := by
  obtain ⟨h1, h2, h3, h4, h5, h6⟩ := argsE_zero h
  rw [argsE, if_neg, if_neg (by simp; omega), if_neg (by rw [h5]; decide), if_neg]
  · rw [allHold, Bool.not_eq_false, List.all_eq_true]
    intro x hx
    rcases hs x hx with q | ⟨q, _⟩
    · exact List.all_eq_true.1 h6 x q
    · exact q
  · rw [anyLarge, List.any_eq_true]
    rintro ⟨x, hx, hl⟩
    rcases hs x hx with q | ⟨_, q⟩
    · have := h1 x q; simp at hl; omega
    · simp at hl; omega
/-- By a power of 2 without rest. -/
theorem ratE_whole {f p r : Int} {n : Bool} {v d : Nat} {e : Int} {K w : Nat} (hd : 0 < d) (h : v = w * d) (hw : 0 < w) : ratE f p r n v d e K = roundP f p r n w e false := by
  have e1 : v * 2 ^ K = w * 2 ^ K * d := by rw [h]; ac_rfl
  have e2 : quoM v d K = w * 2 ^ K := by unfold quoM; rw [e1, Nat.mul_div_cancel _ hd]
  have e3 : quoS v d K = false := by unfold quoS; rw [e1, Nat.mul_mod_left]; rfl
  unfold ratE
  rw [e2, e3, roundP_scale K hw]
theorem one_round {f p r : Int} (hf : fmOk f p = true) : roundP f p r false 1 0 false = (⟨1, false, 0, 1⟩, 0) := by
  obtain ⟨b1, b2, b3, b4⟩ := fmOk_spec hf
  obtain ⟨b5, b6⟩ := gOfE_le b1 b2
  have hb : bl 1 = 1 := by decide
  rw [roundP_exact hf (by decide) (by omega) (by rw [hb]; omega) (by rw [hb]; omega)]
  unfold rcanon
  rw [if_pos rfl, show tz 1 = 0 from tz_odd1 rfl]
  rfl
theorem QuotientOnes_does {f p r : Int} {x : Fla} (hx : Ws x.m) (ex : I64 x.e) : Does Tryd.prog Gv 3 [Fm f p, .c (.i .i64 r), Fl x.k x.n x.e x.m] (.v (.c (.b true))) := by
  have hS : Does Tryd.prog Gv 4 [.s false [x.cs]] (.v (.c (.b (shortP [x])))) := Short15_does (l := [x]) (by simp)
  cases hs : shortP [x] with
  | false =>
    rw [hs] at hS
    refine Does.of (nt := 79) Tryd.func3 rfl rfl rfl (by simp) ?_
    simp only [argTm, PV.ext, Ce.ext]
    refine Do.seqk fun _ k1_ => ?_
    refine Do.region [1,3,5] true ?_
    simp [go_sem]
    apply k1_; clear k1_
    refine Do.seqk fun _ k2_ => ?_
    refine Do.seqk fun _ k3_ => ?_
    refine Do.region [1,3,5,30] true ?_
    simp [go_sem]
    repeat (refine And.intro (by first | omega | (intros; omega) | grind) ?_)
    refine DoL.sealS true 102 101 rfl ?_
    simp [go_sem]
    refine DoL.call true 103 rfl rfl rfl rfl (by first | exact trivial | omega | (simp; done) | (simp; omega)) (hS) rfl (by first | exact .inl rfl | exact .inr rfl) rfl ?_
    simp [go_sem]
    repeat (refine And.intro (by first | omega | (intros; omega) | grind) ?_)
    refine DoL.gOff true 109 rfl rfl (.v (.s true [x.cs])) rfl ?_
    simp [go_sem]
    refine DoL.gOff true 110 rfl rfl (.int .i64 0) rfl ?_
    simp [go_sem]
    repeat (refine And.intro (by first | omega | (intros; omega) | grind) ?_)
    apply k3_; clear k3_
    refine Do.cond [1,3,5] rfl (fun h => ?_) (fun h => ?_) <;> simp [go_sem] at h ⊢
    refine Do.seqk fun _ k4_ => ?_
    refine Do.region [6] true ?_
    simp [go_sem]
    refine DoL.call true 201 rfl rfl rfl rfl (by first | exact trivial | omega | (simp; done) | (simp; omega)) (awake19_does) rfl (by first | exact .inl rfl | exact .inr rfl) rfl ?_
    simp [go_sem]
    apply k4_; clear k4_
    refine Do.ret ?_
    simp [endQ, rets, ret1, go_sem]
    repeat (refine And.intro (by first | omega | (intros; omega) | grind) ?_)
    exact TLe.refl _
  | true =>
    rw [hs] at hS
    have hsx : x.m.length ≤ 40 := by simpa [shortP] using hs
    have ox : x.Ok := ⟨by simp [Sh]; omega, hx, ex⟩
    have o1 : (oneF).Ok := ⟨by simp [Sh], fun w hw => by simp at hw; omega, by constructor <;> simp⟩
    have hA : Does Tryd.prog Gv 5 [Fm f p, .c (.i .i64 r), .s false [x.cs]] (.int .i64 (argsE f p r false [x])) := @KArgs_does Gv f p r [x] (by simp) (by simp [ox])
    by_cases he : argsE f p r false [x] = 0
    · rw [he] at hA
      by_cases hk : x.k = 1
      · obtain ⟨h1, h2, h3, h4, h5, h6⟩ := argsE_zero he
        obtain ⟨b1, b2, b3, b4⟩ := fmOk_spec h5
        have hh : (holdsP f p x.flt).2 = true := by simpa using List.all_eq_true.1 h6 x (by simp)
        have e1 : argsE f p r false [x, oneF] = 0 := argsE_with he (by
          intro u hu
          simp only [List.mem_cons, List.not_mem_nil, or_false] at hu
          rcases hu with rfl | rfl
          · exact .inl (by simp)
          · exact .inr ⟨by rw [one_holds h5], by simp⟩)
        have e2 : argsE f p r false [x, x] = 0 := argsE_with he (by
          intro u hu
          simp only [List.mem_cons, List.not_mem_nil, or_false, or_self] at hu
          exact .inl (by simp [hu]))
        have hk1 : (holdsP f p x.flt).1.k = 1 := by rw [← (held_rcanon hh).1, rcanon_k]; exact hk
        have hc := held_cf hh
        have hsl := held_small h5 hh
        have hvp := Nat.pos_of_ne_zero (hc.pos hk1)
        have hfix := hc.fix
        have hsm := same_held hh
        have hfi := held_fin hh hk1
        have hb1 : bl 1 = 1 := by decide
        have m1 := @QDiv_fin f p r x oneF ox o1 e1 _ _ rfl (congrArg Prod.fst (one_holds h5)) hk1 rfl 1000 (by
          show p + 3 + bl 1 ≤ ((1000 : Nat) : Int)
          omega)
        have m2 := @QDiv_fin f p r x x ox ox e2 _ _ rfl rfl hk1 hk1 1000 (by omega)
        generalize (holdsP f p x.flt).1 = a at *
        obtain ⟨ak, an, ae, av⟩ := a
        simp only at hk1 hsl hvp hfi
        subst hk1
        have r1 : ratE f p r (an != false) av 1 (ae - 0) 1000 = (⟨1, an, ae, av⟩, 0) := by
          rw [ratE_whole (w := av) (by decide) (by omega) hvp]
          have : (an != false) = an := by cases an <;> rfl
          rw [this, Int.sub_zero, roundP_exact h5 hvp (by omega) (by omega) (by omega), hfix]
        have r2 : ratE f p r (an != an) av av (ae - ae) 1000 = (⟨1, false, 0, 1⟩, 0) := by
          rw [ratE_whole (w := 1) hvp (by omega) (by decide)]
          have : (an != an) = false := by cases an <;> rfl
          rw [this, Int.sub_self, one_round h5]
        have m1 : Does Tryd.prog Gv 7 [Fm f p, .c (.i .i64 r), Fl x.k x.n x.e x.m, Fl 1 false 0 [1]] (.t [(ratE f p r (an != false) av 1 (ae - 0) 1000).1.pv, .c (.i .i64 (ratE f p r (an != false) av 1 (ae - 0) 1000).2), .c (.i .i64 0)]) := m1
        have m2 : Does Tryd.prog Gv 7 [Fm f p, .c (.i .i64 r), Fl x.k x.n x.e x.m, Fl x.k x.n x.e x.m] (.t [(ratE f p r (an != an) av av (ae - ae) 1000).1.pv, .c (.i .i64 (ratE f p r (an != an) av av (ae - ae) 1000).2), .c (.i .i64 0)]) := m2
        rw [r1] at m1
        rw [r2] at m2
        have m1 : Does Tryd.prog Gv 7 [Fm f p, .c (.i .i64 r), Fl x.k x.n x.e x.m, Fl 1 false 0 [1]] (.t [Fl 1 an ae (nat av), .c (.i .i64 0), .c (.i .i64 0)]) := m1
        have m2 : Does Tryd.prog Gv 7 [Fm f p, .c (.i .i64 r), Fl x.k x.n x.e x.m, Fl x.k x.n x.e x.m] (.t [Fl 1 false 0 (nat 1), .c (.i .i64 0), .c (.i .i64 0)]) := m2
        rw [nat_one] at m2
        have hsl3 := hsl.2.2.1
        have s1 := @Same_does 1 an ae (nat av) x.k x.n x.e x.m (by unfold Sh; have := nat_len_bl av; omega) (nat_ws _) (by unfold I64; omega) ox.sh hx ex
        have hsym : sameP ⟨1, an, ae, av⟩ x.flt = true := by
          have h7 : sameP x.flt ⟨1, an, ae, av⟩ = true := hsm
          unfold sameP at h7 ⊢
          simp only [Bool.and_eq_true, beq_iff_eq, decide_eq_true_eq] at h7 ⊢
          obtain ⟨⟨⟨⟨⟨g1, g2⟩, g3⟩, g4⟩, g5⟩, g6⟩ := h7
          exact ⟨⟨⟨⟨⟨g2, g1⟩, g3.symm⟩, g4.symm⟩, g5.symm⟩, g6.symm⟩
        rw [val_nat, show sameP ⟨1, an, ae, av⟩ ⟨x.k, x.n, x.e, val x.m⟩ = true from hsym] at s1
        have s2 := @Same_does 1 false 0 [1] 1 false 0 [1] (by decide) o1.ws (by constructor <;> decide) (by decide) o1.ws (by constructor <;> decide)
        rw [show sameP ⟨1, false, 0, val [1]⟩ ⟨1, false, 0, val [1]⟩ = true by kernel_rfl] at s2
        obtain ⟨xk, xn, xe, xm⟩ := x
        simp only at hk
        subst hk
        refine Does.of (nt := 79) Tryd.func3 rfl rfl rfl (by simp) ?_
        simp only [argTm, PV.ext, Ce.ext]
        refine Do.seqk fun _ k1_ => ?_
        refine Do.region [1,3,5] true ?_
        simp [go_sem]
        apply k1_; clear k1_
        refine Do.seqk fun _ k2_ => ?_
        refine Do.seqk fun _ k3_ => ?_
        refine Do.region [1,3,5,30] true ?_
        simp [go_sem]
        repeat (refine And.intro (by first | omega | (intros; omega) | grind) ?_)
        refine DoL.sealS true 102 101 rfl ?_
        simp [go_sem]
        refine DoL.call true 103 rfl rfl rfl rfl (by first | exact trivial | omega | (simp; done) | (simp; omega)) (hS) rfl (by first | exact .inl rfl | exact .inr rfl) rfl ?_
        simp [go_sem]
        repeat (refine And.intro (by first | omega | (intros; omega) | grind) ?_)
        refine DoL.gOn true 108 rfl rfl [21] (by simp [go_sem]) ?_
        simp [go_sem]
        refine DoL.sealS true 109 108 rfl ?_
        simp [go_sem]
        refine DoL.callg true 110 rfl rfl rfl rfl rfl (by simp [go_sem] <;> omega) (fun _ => hA) rfl (by first | exact .inl rfl | exact .inr rfl) rfl ?_
        simp [go_sem]
        repeat (refine And.intro (by first | omega | (intros; omega) | grind) ?_)
        apply k3_; clear k3_
        refine Do.cond [1,3,5] rfl (fun h => ?_) (fun h => ?_) <;> simp [go_sem] at h ⊢
        refine Do.skip ?_
        simp [go_sem]
        apply k2_; clear k2_
        refine Do.seqk fun _ k4_ => ?_
        refine Do.region [1,3,5,7] true ?_
        simp [go_sem]
        repeat (refine And.intro (by first | omega | (intros; omega) | grind) ?_)
        apply k4_; clear k4_
        refine Do.seqk fun _ k5_ => ?_
        refine Do.frz 300 rfl ?_
        refine Do.region [1,3,5,7,8,9,10] true ?_
        simp [go_sem]
        repeat (refine And.intro (by first | omega | (intros; omega) | grind) ?_)
        refine DoL.call true 405 rfl rfl rfl rfl (by first | exact trivial | omega | (simp; done) | (simp; omega)) (m1) rfl (by first | exact .inl rfl | exact .inr rfl) rfl ?_
        simp [go_sem]
        repeat (refine And.intro (by first | omega | (intros; omega) | grind) ?_)
        apply k5_; clear k5_
        refine Do.seqk fun _ k6_ => ?_
        refine Do.region [5,7,8,9,10,11,12,13] true ?_
        simp [go_sem]
        repeat (refine And.intro (by first | omega | (intros; omega) | grind) ?_)
        refine DoL.call true 505 rfl rfl rfl rfl (by first | exact trivial | omega | (simp; done) | (simp; omega)) (m2) rfl (by first | exact .inl rfl | exact .inr rfl) rfl ?_
        simp [go_sem]
        repeat (refine And.intro (by first | omega | (intros; omega) | grind) ?_)
        apply k6_; clear k6_
        refine Do.seqk fun _ k7_ => ?_
        refine Do.region [6] true ?_
        simp [go_sem]
        repeat (refine And.intro (by first | omega | (intros; omega) | grind) ?_)
        refine DoL.callg true 618 rfl rfl rfl rfl rfl (by simp [go_sem] <;> omega) (fun _ => s1) rfl (by first | exact .inl rfl | exact .inr rfl) rfl ?_
        simp [go_sem]
        repeat (refine And.intro (by first | omega | (intros; omega) | grind) ?_)
        refine DoL.callg true 623 rfl rfl rfl rfl rfl (by simp [go_sem] <;> omega) (fun _ => s2) rfl (by first | exact .inl rfl | exact .inr rfl) rfl ?_
        simp [go_sem]
        refine DoL.callg true 626 rfl rfl rfl rfl rfl (by simp [go_sem] <;> omega) (fun _ => awake19_does) rfl (by first | exact .inl rfl | exact .inr rfl) rfl ?_
        simp [go_sem]
        apply k7_; clear k7_
        refine Do.ret ?_
        simp [endQ, rets, ret1, go_sem]
        repeat (refine And.intro (by first | omega | (intros; omega) | grind) ?_)
        exact TLe.refl _
      · skip
        refine Does.of (nt := 79) Tryd.func3 rfl rfl rfl (by simp) ?_
        simp only [argTm, PV.ext, Ce.ext]
        refine Do.seqk fun _ k1_ => ?_
        refine Do.region [1,3,5] true ?_
        simp [go_sem]
        apply k1_; clear k1_
        refine Do.seqk fun _ k2_ => ?_
        refine Do.seqk fun _ k3_ => ?_
        refine Do.region [1,3,5,30] true ?_
        simp [go_sem]
        repeat (refine And.intro (by first | omega | (intros; omega) | grind) ?_)
        refine DoL.sealS true 102 101 rfl ?_
        simp [go_sem]
        refine DoL.call true 103 rfl rfl rfl rfl (by first | exact trivial | omega | (simp; done) | (simp; omega)) (hS) rfl (by first | exact .inl rfl | exact .inr rfl) rfl ?_
        simp [go_sem]
        repeat (refine And.intro (by first | omega | (intros; omega) | grind) ?_)
        refine DoL.gOn true 108 rfl rfl [21] (by simp [go_sem]) ?_
        simp [go_sem]
        refine DoL.sealS true 109 108 rfl ?_
        simp [go_sem]
        refine DoL.callg true 110 rfl rfl rfl rfl rfl (by simp [go_sem] <;> omega) (fun _ => hA) rfl (by first | exact .inl rfl | exact .inr rfl) rfl ?_
        simp [go_sem]
        repeat (refine And.intro (by first | omega | (intros; omega) | grind) ?_)
        apply k3_; clear k3_
        refine Do.cond [1,3,5] rfl (fun h => ?_) (fun h => ?_) <;> simp [go_sem] at h ⊢
        · refine Do.seqk fun _ k4_ => ?_
          refine Do.region [6] true ?_
          simp [go_sem]
          refine DoL.call true 201 rfl rfl rfl rfl (by first | exact trivial | omega | (simp; done) | (simp; omega)) (awake19_does) rfl (by first | exact .inl rfl | exact .inr rfl) rfl ?_
          simp [go_sem]
          apply k4_; clear k4_
          refine Do.ret ?_
          simp [endQ, rets, ret1, go_sem]
          repeat (refine And.intro (by first | omega | (intros; omega) | grind) ?_)
          exact TLe.refl _
        · exact absurd h hk
    · generalize argsE f p r false [x] = ae at *
      refine Does.of (nt := 79) Tryd.func3 rfl rfl rfl (by simp) ?_
      simp only [argTm, PV.ext, Ce.ext]
      refine Do.seqk fun _ k1_ => ?_
      refine Do.region [1,3,5] true ?_
      simp [go_sem]
      apply k1_; clear k1_
      refine Do.seqk fun _ k2_ => ?_
      refine Do.seqk fun _ k3_ => ?_
      refine Do.region [1,3,5,30] true ?_
      simp [go_sem]
      repeat (refine And.intro (by first | omega | (intros; omega) | grind) ?_)
      refine DoL.sealS true 102 101 rfl ?_
      simp [go_sem]
      refine DoL.call true 103 rfl rfl rfl rfl (by first | exact trivial | omega | (simp; done) | (simp; omega)) (hS) rfl (by first | exact .inl rfl | exact .inr rfl) rfl ?_
      simp [go_sem]
      repeat (refine And.intro (by first | omega | (intros; omega) | grind) ?_)
      refine DoL.gOn true 108 rfl rfl [21] (by simp [go_sem]) ?_
      simp [go_sem]
      refine DoL.sealS true 109 108 rfl ?_
      simp [go_sem]
      refine DoL.callg true 110 rfl rfl rfl rfl rfl (by simp [go_sem] <;> omega) (fun _ => hA) rfl (by first | exact .inl rfl | exact .inr rfl) rfl ?_
      simp [go_sem]
      repeat (refine And.intro (by first | omega | (intros; omega) | grind) ?_)
      apply k3_; clear k3_
      refine Do.cond [1,3,5] rfl (fun h5 => ?_) (fun h5 => ?_) <;> simp [go_sem] at h5 ⊢
      · refine Do.seqk fun _ k4_ => ?_
        refine Do.region [6] true ?_
        simp [go_sem]
        refine DoL.call true 201 rfl rfl rfl rfl (by first | exact trivial | omega | (simp; done) | (simp; omega)) (awake19_does) rfl (by first | exact .inl rfl | exact .inr rfl) rfl ?_
        simp [go_sem]
        apply k4_; clear k4_
        refine Do.ret ?_
        simp [endQ, rets, ret1, go_sem]
        repeat (refine And.intro (by first | omega | (intros; omega) | grind) ?_)
        exact TLe.refl _
      · exact absurd h5 (by simp [he])
end Go.Proofs.YtbhokdhkfodpfaaDoor
