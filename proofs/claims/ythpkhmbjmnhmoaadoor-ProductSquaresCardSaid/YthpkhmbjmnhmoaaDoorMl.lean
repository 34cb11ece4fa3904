/- The law ProductSquares holds, for every input: the second power of a float of up to 40 words is its product with itself, and its first power is itself, without flags. Conditions: the two listed package variables hold what the program's text lays (tied by the card). -/
import Derived.Test.YthpkhmbjmnhmoaaDoorMk
import Derived.Test.YthpkhmbjmnhmoaaDoorMi
import Derived.Test.YthpkhmbjmnhmoaaDoorCards
import Derived.Test.YthpkhmbjmnhmoaaDoorTie
import Derived.SevenTiedAt
/- The law ProductSquares. No condition. -/
namespace Go.Proofs.YthpkhmbjmnhmoaaDoor
set_option linter.unusedVariables false
set_option linter.unusedSimpArgs false
set_option maxHeartbeats 4000000
set_option maxRecDepth 10000
theorem powA_one {f p r : Int} {x : Fla} (h : argsE f p r false [x] = 0) : powA f p r x 1 = ((holdsP f p x.flt).1, 0, 0) := by
  obtain ⟨h1, h2, h3, h4, h5, h6⟩ := argsE_zero h
  have hh : (holdsP f p x.flt).2 = true := by simpa using List.all_eq_true.1 h6 x (by simp)
  have hc := held_cf hh
  have ho := held_fin hh
  have hn := (held_pw h5 hh).nan
  rw [powA, show (decide ((1 : Int) < 0) || decide ((64 : Int) < 1)) = false from rfl, if_pos h, show (1 : Int).toNat = 1 from rfl]
  generalize (holdsP f p x.flt).1 = a at *
  have hfx := hc.fix
  have hp := hc.pos
  have h4 := hc.k
  obtain ⟨k, n, e, v⟩ := a
  simp only at hp hn ho
  unfold K4 at h4
  simp only at h4
  unfold powR
  simp only
  rcases h4 with rfl | rfl | rfl | rfl
  · unfold rcanon at hfx
    simp at hfx
    simp [hfx.1.symm, hfx.2.symm]
  · obtain ⟨g1, g2, g3⟩ := ho rfl
    rw [if_neg (by omega), if_neg (by omega), if_neg (by omega)]
    rw [show (n && (((1 : Nat) : Int) % 2 == 1)) = n by simp, Nat.pow_one, show e * ((1 : Nat) : Int) = e by omega]
    rw [roundP_exact h5 (by have := hp rfl; omega) g2 g1 g3, hfx]
  · unfold rcanon at hfx
    simp at hfx
    simp [hfx.1.symm, hfx.2.symm]
  · unfold rcanon at hfx
    simp at hfx
    have := hn rfl
    simp [hfx.1.symm, hfx.2.symm, this]
theorem powA_two {f p r : Int} {x : Fla} (h : argsE f p r false [x] = 0) : powA f p r x 2 = mulP f p r x x := by
  obtain ⟨h1, h2, h3, h4, h5, h6⟩ := argsE_zero h
  have hh : (holdsP f p x.flt).2 = true := by simpa using List.all_eq_true.1 h6 x (by simp)
  have e2 : argsE f p r false [x, x] = 0 := argsE_sub h (by simp)
  have hc := held_cf hh
  rw [powA, mulP, show (decide ((2 : Int) < 0) || decide ((64 : Int) < 2)) = false from rfl, if_pos h, if_pos e2, show (2 : Int).toNat = 2 from rfl]
  generalize (holdsP f p x.flt).1 = a at *
  have hp := hc.pos
  have h4 := hc.k
  obtain ⟨k, n, e, v⟩ := a
  simp only at hp
  unfold K4 at h4
  simp only at h4
  have e1 : (n && (((2 : Nat) : Int) % 2 == 1)) = false := by simp
  unfold powR
  simp only
  rcases h4 with rfl | rfl | rfl | rfl
  · cases n <;> simp [timesP, roundT]
  · rw [if_neg (by omega), if_neg (by omega), if_neg (by omega)]
    have hv := hp rfl
    have e3 : timesP ⟨1, n, e, v⟩ ⟨1, n, e, v⟩ = (false, 1, ⟨false, v * v, e + e⟩) := by
      simp [timesP]
    rw [e3, e1, Nat.pow_two, show e * ((2 : Nat) : Int) = e + e by omega]
    unfold roundT Nu.round
    simp only [Bool.false_eq_true, if_false]
    rw [if_neg (by decide), if_neg (by decide), if_neg (show ¬ v * v = 0 from fun h => hv ((Nat.mul_eq_zero.1 h).elim id id))]
  · cases n <;> simp [timesP, roundT]
  · cases n <;> simp [timesP, roundT]
theorem same_held' {f p : Int} {x : Flt} (h : (holdsP f p x).2 = true) : sameP (holdsP f p x).1 x = true := by
  have := same_held h
  unfold sameP at *
  simp only [Bool.and_eq_true, beq_iff_eq, decide_eq_true_eq] at *
  obtain ⟨⟨⟨⟨⟨a, b⟩, c⟩, d⟩, e⟩, f⟩ := this
  exact ⟨⟨⟨⟨⟨b, a⟩, c.symm⟩, d.symm⟩, e.symm⟩, f.symm⟩
theorem ProductSquares_does {f p r : Int} {x : Fla} (hx : Ws x.m) (ex : I64 x.e) : Does Tryd.prog Gv 5 [Fm f p, .c (.i .i64 r), Fl x.k x.n x.e x.m] (.v (.c (.b true))) := by
  have hS : Does Tryd.prog Gv 7 [.s false [x.cs]] (.v (.c (.b (shortP [x])))) := Short15_does (l := [x]) (by simp)
  cases hs : shortP [x] with
  | false =>
    rw [hs] at hS
    refine Does.of (nt := 86) Tryd.func5 rfl rfl rfl (by simp) ?_
    simp only [argTm, PV.ext, Ce.ext]
    refine Do.seqk fun _ k1_ => ?_
    refine Do.region [1,3,5] true ?_
    simp [go_sem]
    apply k1_; clear k1_
    refine Do.seqk fun _ k2_ => ?_
    refine Do.seqk fun _ k3_ => ?_
    refine Do.region [1,3,5,27] true ?_
    simp [go_sem]
    repeat (refine And.intro (by first | omega | (intros; omega) | (intros; exact And.intro (by assumption) (by omega)) | grind) ?_)
    refine DoL.sealS true 102 101 rfl ?_
    simp [go_sem]
    refine DoL.call true 103 rfl rfl rfl rfl (by first | exact trivial | omega | (simp; done) | (simp; omega)) (hS) rfl (by first | exact .inl rfl | exact .inr rfl) rfl ?_
    simp [go_sem]
    repeat (refine And.intro (by first | omega | (intros; omega) | (intros; exact And.intro (by assumption) (by omega)) | grind) ?_)
    refine DoL.gOff true 109 rfl rfl (.v (.s true [x.cs])) rfl ?_
    simp [go_sem]
    refine DoL.gOff true 110 rfl rfl (.int .i64 0) rfl ?_
    simp [go_sem]
    apply k3_; clear k3_
    refine Do.cond [1,3,5] rfl (fun h => ?_) (fun h => ?_) <;> simp [go_sem] at h ⊢
    refine Do.seqk fun _ k4_ => ?_
    refine Do.region [6] true ?_
    simp [go_sem]
    refine DoL.call true 201 rfl rfl rfl rfl (by first | exact trivial | omega | (simp; done) | (simp; omega)) (awake18_does) rfl (by first | exact .inl rfl | exact .inr rfl) rfl ?_
    simp [go_sem]
    apply k4_; clear k4_
    refine Do.ret ?_
    simp [endQ, rets, ret1, go_sem]
    repeat (refine And.intro (by first | omega | (intros; omega) | (intros; exact And.intro (by assumption) (by omega)) | grind) ?_)
    exact TLe.refl _
  | true =>
    rw [hs] at hS
    have hsx : x.m.length ≤ 40 := by simpa [shortP] using hs
    have ox : x.Ok := ⟨by simp [Sh]; omega, hx, ex⟩
    have hA : Does Tryd.prog Gv 8 [Fm f p, .c (.i .i64 r), .s false [x.cs]] (.int .i64 (argsE f p r false [x])) := @KArgs_does Gv f p r [x] (by simp) (by simp [ox])
    have m1 := PMul_does (f := f) (p := p) (r := r) ox ox
    have p1 := PPower_does (f := f) (p := p) (r := r) (n := 1) ox
    have p2 := PPower_does (f := f) (p := p) (r := r) (n := 2) ox
    have q1 := @mulP_fine f p r x x
    by_cases he : argsE f p r false [x] = 0
    · have e1 : argsE f p r false [x, x] = 0 := argsE_sub he (by simp)
      have hh : (holdsP f p x.flt).2 = true := by
        have h6 := (argsE_zero he).2.2.2.2.2
        simpa using List.all_eq_true.1 h6 x (by simp)
      have hsm := same_held' hh
      have hsl := held_small (argsE_zero he).2.2.2.2.1 hh
      rw [powA_one he] at p1
      rw [powA_two he] at p2
      have g1 : (mulP f p r x x).2.2 = 0 := by rw [mulP, if_pos e1]
      rw [he] at hA
      generalize mulP f p r x x = u at *
      generalize (holdsP f p x.flt).1 = a at *
      have s1 := @Same_does u.1.k u.1.n u.1.e (nat u.1.v) u.1.k u.1.n u.1.e (nat u.1.v) q1.2.sh (nat_ws _) q1.2.e q1.2.sh (nat_ws _) q1.2.e
      rw [val_nat, show sameP ⟨u.1.k, u.1.n, u.1.e, u.1.v⟩ ⟨u.1.k, u.1.n, u.1.e, u.1.v⟩ = true from q1.2.same] at s1
      have s3 := @Same_does a.k a.n a.e (nat a.v) x.k x.n x.e x.m (by unfold Sh; have := nat_len_bl a.v; omega) (nat_ws _) (by unfold I64; omega) ox.sh hx ex
      rw [val_nat, show sameP ⟨a.k, a.n, a.e, a.v⟩ ⟨x.k, x.n, x.e, val x.m⟩ = true from hsm] at s3
      have m1 : Does Tryd.prog Gv 10 [Fm f p, .c (.i .i64 r), Fl x.k x.n x.e x.m, Fl x.k x.n x.e x.m] (.t [u.1.pv, .c (.i .i64 u.2.1), .c (.i .i64 0)]) := g1 ▸ m1
      have p2 : Does Tryd.prog Gv 14 [Fm f p, .c (.i .i64 r), Fl x.k x.n x.e x.m, .c (.i .i64 2)] (.t [u.1.pv, .c (.i .i64 u.2.1), .c (.i .i64 0)]) := g1 ▸ p2
      have p1 : Does Tryd.prog Gv 14 [Fm f p, .c (.i .i64 r), Fl x.k x.n x.e x.m, .c (.i .i64 1)] (.t [a.pv, .c (.i .i64 0), .c (.i .i64 0)]) := p1
      refine Does.of (nt := 86) Tryd.func5 rfl rfl rfl (by simp) ?_
      simp only [argTm, PV.ext, Ce.ext]
      refine Do.seqk fun _ k1_ => ?_
      refine Do.region [1,3,5] true ?_
      simp [go_sem]
      apply k1_; clear k1_
      refine Do.seqk fun _ k2_ => ?_
      refine Do.seqk fun _ k3_ => ?_
      refine Do.region [1,3,5,27] true ?_
      simp [go_sem]
      repeat (refine And.intro (by first | omega | (intros; omega) | (intros; exact And.intro (by assumption) (by omega)) | grind) ?_)
      refine DoL.sealS true 102 101 rfl ?_
      simp [go_sem]
      refine DoL.call true 103 rfl rfl rfl rfl (by first | exact trivial | omega | (simp; done) | (simp; omega)) (hS) rfl (by first | exact .inl rfl | exact .inr rfl) rfl ?_
      simp [go_sem]
      repeat (refine And.intro (by first | omega | (intros; omega) | (intros; exact And.intro (by assumption) (by omega)) | grind) ?_)
      refine DoL.gOn true 108 rfl rfl [23] (by simp [go_sem]) ?_
      simp [go_sem]
      refine DoL.sealS true 109 108 rfl ?_
      simp [go_sem]
      refine DoL.callg true 110 rfl rfl rfl rfl rfl (by simp [go_sem] <;> omega) (fun _ => hA) rfl (by first | exact .inl rfl | exact .inr rfl) rfl ?_
      simp [go_sem]
      apply k3_; clear k3_
      refine Do.cond [1,3,5] rfl (fun h => ?_) (fun h => ?_) <;> simp [go_sem] at h ⊢
      refine Do.skip ?_
      simp [go_sem]
      apply k2_; clear k2_
      refine Do.seqk fun _ k4_ => ?_
      refine Do.region [1,3,5,7,8,9] true ?_
      simp [go_sem]
      repeat (refine And.intro (by first | omega | (intros; omega) | (intros; exact And.intro (by assumption) (by omega)) | grind) ?_)
      refine DoL.call true 304 rfl rfl rfl rfl (by first | exact trivial | omega | (simp; done) | (simp; omega)) (p2) rfl (by first | exact .inl rfl | exact .inr rfl) rfl ?_
      simp [go_sem]
      repeat (refine And.intro (by first | omega | (intros; omega) | (intros; exact And.intro (by assumption) (by omega)) | grind) ?_)
      apply k4_; clear k4_
      refine Do.seqk fun _ k5_ => ?_
      refine Do.region [1,3,5,7,8,9,10,11,12] true ?_
      simp [go_sem]
      repeat (refine And.intro (by first | omega | (intros; omega) | (intros; exact And.intro (by assumption) (by omega)) | grind) ?_)
      refine DoL.call true 405 rfl rfl rfl rfl (by first | exact trivial | omega | (simp; done) | (simp; omega)) (m1) rfl (by first | exact .inl rfl | exact .inr rfl) rfl ?_
      simp [go_sem]
      repeat (refine And.intro (by first | omega | (intros; omega) | (intros; exact And.intro (by assumption) (by omega)) | grind) ?_)
      apply k5_; clear k5_
      refine Do.seqk fun _ k6_ => ?_
      refine Do.region [5,7,8,9,10,11,12,13,14,15] true ?_
      simp [go_sem]
      repeat (refine And.intro (by first | omega | (intros; omega) | (intros; exact And.intro (by assumption) (by omega)) | grind) ?_)
      refine DoL.call true 504 rfl rfl rfl rfl (by first | exact trivial | omega | (simp; done) | (simp; omega)) (p1) rfl (by first | exact .inl rfl | exact .inr rfl) rfl ?_
      simp [go_sem]
      repeat (refine And.intro (by first | omega | (intros; omega) | (intros; exact And.intro (by assumption) (by omega)) | grind) ?_)
      apply k6_; clear k6_
      refine Do.seqk fun _ k7_ => ?_
      refine Do.region [6] true ?_
      simp [go_sem]
      repeat (refine And.intro (by first | omega | (intros; omega) | (intros; exact And.intro (by assumption) (by omega)) | grind) ?_)
      refine DoL.callg true 623 rfl rfl rfl rfl rfl (by simp [go_sem] <;> omega) (fun _ => s1) rfl (by first | exact .inl rfl | exact .inr rfl) rfl ?_
      simp [go_sem]
      repeat (refine And.intro (by first | omega | (intros; omega) | (intros; exact And.intro (by assumption) (by omega)) | grind) ?_)
      refine DoL.callg true 628 rfl rfl rfl rfl rfl (by simp [go_sem] <;> omega) (fun _ => s3) rfl (by first | exact .inl rfl | exact .inr rfl) rfl ?_
      simp [go_sem]
      refine DoL.callg true 631 rfl rfl rfl rfl rfl (by simp [go_sem] <;> omega) (fun _ => awake18_does) rfl (by first | exact .inl rfl | exact .inr rfl) rfl ?_
      simp [go_sem]
      apply k7_; clear k7_
      refine Do.ret ?_
      simp [endQ, rets, ret1, go_sem]
      repeat (refine And.intro (by first | omega | (intros; omega) | (intros; exact And.intro (by assumption) (by omega)) | grind) ?_)
      exact TLe.refl _
    · generalize argsE f p r false [x] = ae at *
      refine Does.of (nt := 86) Tryd.func5 rfl rfl rfl (by simp) ?_
      simp only [argTm, PV.ext, Ce.ext]
      refine Do.seqk fun _ k1_ => ?_
      refine Do.region [1,3,5] true ?_
      simp [go_sem]
      apply k1_; clear k1_
      refine Do.seqk fun _ k2_ => ?_
      refine Do.seqk fun _ k3_ => ?_
      refine Do.region [1,3,5,27] true ?_
      simp [go_sem]
      repeat (refine And.intro (by first | omega | (intros; omega) | (intros; exact And.intro (by assumption) (by omega)) | grind) ?_)
      refine DoL.sealS true 102 101 rfl ?_
      simp [go_sem]
      refine DoL.call true 103 rfl rfl rfl rfl (by first | exact trivial | omega | (simp; done) | (simp; omega)) (hS) rfl (by first | exact .inl rfl | exact .inr rfl) rfl ?_
      simp [go_sem]
      repeat (refine And.intro (by first | omega | (intros; omega) | (intros; exact And.intro (by assumption) (by omega)) | grind) ?_)
      refine DoL.gOn true 108 rfl rfl [23] (by simp [go_sem]) ?_
      simp [go_sem]
      refine DoL.sealS true 109 108 rfl ?_
      simp [go_sem]
      refine DoL.callg true 110 rfl rfl rfl rfl rfl (by simp [go_sem] <;> omega) (fun _ => hA) rfl (by first | exact .inl rfl | exact .inr rfl) rfl ?_
      simp [go_sem]
      apply k3_; clear k3_
      refine Do.cond [1,3,5] rfl (fun h5 => ?_) (fun h5 => ?_) <;> simp [go_sem] at h5 ⊢
      · refine Do.seqk fun _ k4_ => ?_
        refine Do.region [6] true ?_
        simp [go_sem]
        refine DoL.call true 201 rfl rfl rfl rfl (by first | exact trivial | omega | (simp; done) | (simp; omega)) (awake18_does) rfl (by first | exact .inl rfl | exact .inr rfl) rfl ?_
        simp [go_sem]
        apply k4_; clear k4_
        refine Do.ret ?_
        simp [endQ, rets, ret1, go_sem]
        repeat (refine And.intro (by first | omega | (intros; omega) | (intros; exact And.intro (by assumption) (by omega)) | grind) ?_)
        exact TLe.refl _
      · exact absurd h5 he
end Go.Proofs.YthpkhmbjmnhmoaaDoor
/- The row of ProductSquares. No condition. -/
namespace Go.Proofs.YthpkhmbjmnhmoaaDoor
set_option linter.unusedVariables false
set_option linter.unusedSimpArgs false
open Go.ChangeShapes Go.WideShapes Go.ChangeAt Go.RowKit
set_option maxRecDepth 100000
namespace productSquares
set_option maxRecDepth 100000 in
theorem lifted (os : Os) (started : os.Started) (H : Type) (enc : TypeId × Value → H) :
    ReturnsInHanded {} Tryd.checked os 5 .any (fun w args => (Rows.productSquaresSpec.pre enc Tryd.prog Tryd.f5 [] false w args ∧ laidMetH Tryd.prog laidL w) ∧ sizedMet enc Tryd.prog Tryd.f5 (OpenSpec.ofChange Rows.productSquaresSpec) false w args)
      (Rows.productSquaresSpec.post enc Tryd.prog Tryd.f5 false true false false) := by
  refine returnsInHanded_of_change_and (C := Tryd.checked) (X := fun w _ => laidMetH Tryd.prog laidL w) (fun _ _ _ hh h => h.of_heap hh) own started (by kernel_rfl) Tryd.func5
    (ChangeSpec.witness_shaped (enc := enc) (C := Tryd.checked) (os := os) (X := fun w _ => laidMetH Tryd.prog laidL w) false (World.doorLaid Tryd.prog doorN os) #[.agg #[.int .i64 0, .int .i64 0], .int .i64 0, .agg #[.int .i64 0, .bool false, .int .i64 0, .slice Option.none 0 0]] doorK rfl (World.shaped_of_RefB (by kernel_rfl) (by kernel_rfl)) (by kernel_rfl) (by kernel_rfl) (by kernel_rfl) (door_met os _)) ?_
  intro W base args ds gs before hval0 hW _ _ hL _
  have hval : ∀ (j : Nat) t v, Tryd.f5.params[j]? = some t → args[j]? = some v → Value.okWide Tryd.prog W .any base t v := hval0
  have hW' := hW
  obtain ⟨p, q, hA0, hV, rfl, hfz, hnd⟩ := hW
  have hA : DataW.TrodAll enc Tryd.prog W 0 (fun _ => true) true Tryd.f5.params.toList args.toList ds p := hA0
  rw [Tryd.params5] at hA hval
  obtain ⟨v0, vs0, d0, ds0, p0, q0, hargs, rfl, rfl, h0, r0⟩ := trodAll_cons hA
  obtain ⟨v1, vs1, d1, ds1, p1, q1, rfl, rfl, rfl, h1, r1⟩ := trodAll_cons r0
  obtain ⟨v2, vs2, d2, ds2, p2, q2, rfl, rfl, rfl, h2, r2⟩ := trodAll_cons r1
  obtain ⟨rfl, rfl, rfl⟩ := trodAll_nil r2
  obtain rfl : args = #[v0, v1, v2] := by cases args; simp_all
  obtain ⟨rfl, rfl⟩ := trodVars_none hV
  have lt0 : ∀ x ∈ p0, x.block < W.heap.size := by obtain ⟨m, hm⟩ := h0; exact DataW.trod_lt m _ _ _ hm
  have lt1 : ∀ x ∈ p1, x.block < W.heap.size := by obtain ⟨m, hm⟩ := h1; exact DataW.trod_lt m _ _ _ hm
  have lt2 : ∀ x ∈ p2, x.block < W.heap.size := by obtain ⟨m, hm⟩ := h2; exact DataW.trod_lt m _ _ _ hm
  obtain ⟨f, fp, a0⟩ := arg_fm (hval 0 _ v0 rfl rfl) h0
  have k1 := h1
  obtain ⟨r, rfl, rfl, rfl, w1⟩ := open_int Tryd.underlying24 (hval 1 _ v1 rfl rfl) h1
  obtain ⟨x, wx, ex, a2⟩ := arg_fl (hval 2 _ v2 rfl rfl) h2
  clear hA0 hval0
  refine (law_calls (vals := [v0, .int .i64 r, v2]) (ProductSquares_does (f := f) (p := fp) (r := r) wx ex) Tryd.func5 rfl rfl (of_laid hL) (.cons a0 (.cons rfl (.cons a2 .nil)))).mono fun e W' ⟨he, bel⟩ => ?_
  subst he
  exact ⟨_, rfl, _, _, _, [], _, [], hW', trodAll_mk1 (shut_bool Tryd.underlying4 _), (trodAll_cons_mk (Below.trod laidOut (by kernel_rfl) (of_decide_eq_true (by kernel_rfl)) h0 bel lt0) (trodAll_cons_mk (Below.trod laidOut (by kernel_rfl) (of_decide_eq_true (by kernel_rfl)) k1 bel lt1) (trodAll_mk1 (Below.trod laidOut (by kernel_rfl) (of_decide_eq_true (by kernel_rfl)) h2 bel lt2)))), rfl, bel.frame _, fun h => by cases h⟩
theorem over : Rows.productSquaresRow.holds Tryd.pinned (OpenSpec.ofChange Rows.productSquaresSpec) :=
  OpenClaim.holds_of_wide 5 Tryd.f5 rfl rfl rfl rfl rfl rfl rfl ⟨rfl, rfl, rfl, rfl, rfl⟩ rfl rfl rfl rfl rfl (by kernel_rfl) Tryd.func5 (by kernel_rfl)
    (of_decide_eq_true (by kernel_rfl)) (by unfold Func.isWrapper; first | (rw [if_pos (by decide +kernel)]; kernel_rfl) | (rw [if_neg (by decide +kernel)]; exact ⟨rfl, rfl⟩))
    (fun os started H enc _ => lifted os started H enc)
end productSquares
end Go.Proofs.YthpkhmbjmnhmoaaDoor
/- The law ProductSquares holds, for every input: the second power of a float of up to 40 words is its product with itself, and its first power is itself, without flags. Conditions: the two listed package variables hold what the program's text lays (tied by the card). -/
namespace Go.Proofs.YthpkhmbjmnhmoaaDoor
set_option linter.unusedVariables false
set_option linter.unusedSimpArgs false
open Go
theorem productSquares_holds : Rows.ProductSquaresCardSaid :=
  Claim7.holds_tied_plain_at .later [] [.data, .funcs] true Rows.productSquaresCard.stood.harness false
    productSquares.over (fun _ h => by cases h) (by kernel_rfl) (fun _ h => by cases h) productSquares_row_tie rfl ⟨rfl, rfl⟩ (by kernel_rfl) rfl
    (fun f fn hf hfn => by
      obtain rfl : f = 5 := Option.some.inj ((show Tryd.prog.funcNamed "reckoner/reckonerlaw18.ProductSquares" = some 5 by kernel_rfl).symm.trans hf) |>.symm
      obtain rfl : fn = Tryd.f5 := (Option.some.inj (Tryd.func5.symm.trans hfn)).symm
      exact ⟨by kernel_rfl, fun j t ht => by
        have hm : t ∈ Tryd.f5.params.toList := by simpa using Array.mem_of_getElem? ht
        have hall : (Tryd.f5.params.toList.all fun u => !Tryd.prog.wantsStandIn u) = true := by kernel_rfl
        exact (show Tryd.prog.wantsStandIn t = false by simpa using List.all_eq_true.1 hall t hm)⟩)
    (by kernel_rfl)
#print axioms productSquares_holds
end Go.Proofs.YthpkhmbjmnhmoaaDoor
