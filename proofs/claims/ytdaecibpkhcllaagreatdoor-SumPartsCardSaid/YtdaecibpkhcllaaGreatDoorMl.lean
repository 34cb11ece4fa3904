/- The law SumParts holds, for every input: the floats of Expand add up to the exact sum, fall in size, are few, and Total of them, in the other order, is the first one. Conditions: the two listed package variables hold what the program's text lays (tied by the card). -/
import Derived.Test.YtdaecibpkhcllaaGreatDoorMk
import Derived.Test.YtdaecibpkhcllaaGreatDoorMi
import Derived.Test.YtdaecibpkhcllaaGreatDoorCards
import Derived.Test.YtdaecibpkhcllaaGreatDoorTie
import Derived.SevenTiedAt
/- The law SumParts. No condition. -/
namespace Go.Proofs.YtdaecibpkhcllaaGreatDoor
set_option linter.unusedVariables false
set_option linter.unusedSimpArgs false
set_option maxHeartbeats 16000000
set_option maxRecDepth 10000
theorem Same_same17 {x : Flt} (hx : Fine x) : Does Tryz.prog Gv 35 [x.pv, x.pv] (.v (.c (.b true))) := by
  have h := @Same_does x.k x.n x.e (nat x.v) x.k x.n x.e (nat x.v) hx.sh (nat_ws _) hx.e hx.sh (nat_ws _) hx.e
  rw [val_nat] at h
  have hs : sameP ⟨x.k, x.n, x.e, x.v⟩ ⟨x.k, x.n, x.e, x.v⟩ = true := by
    have h2 : (canon ⟨x.k, x.n, x.e, x.v⟩).2 = true := hx.can
    unfold sameP
    rw [h2]; simp
  rwa [hs] at h
theorem held_few {f p : Int} {x : Flt} (h : (holdsP f p x).2 = true) (hk : (holdsP f p x).1.k = 1) : (bl (holdsP f p x).1.v : Int) ≤ p := by
  unfold holdsP at *
  split at h
  · rename_i hc
    rw [if_pos hc] at hk
    rcases hc with hc | hc
    · rw [h] at hc; cases hc
    · exact absurd hk hc
  · rename_i hc
    rw [if_neg hc]
    simp only [Bool.and_eq_true, decide_eq_true_eq] at h
    exact h.1.1
/-- Total of the floats of an expansion, in the other order, is the first one. -/
theorem total_back {f p : Int} (hf : fmOk f p = true) {out : List Flt} {n : Nat} {R : Int} (h : expX f p n R = some out) (hlen : out.length ≤ 1000) : (totalP f p 0 (out.reverse.map Flt.fla)).2.2 = 0 ∧ (∀ s, out[0]? = some s → (totalP f p 0 (out.reverse.map Flt.fla)).1 = s) ∧ (out = [] → (totalP f p 0 (out.reverse.map Flt.fla)).1.k = 0) := by
  have hh := expX_holds hf h
  have hheld : heldL f p (out.reverse.map Flt.fla) = out.reverse := by
    unfold heldL
    rw [List.map_map]
    conv => rhs; rw [← List.map_id out.reverse]
    refine List.map_congr_left fun x hx => ?_
    simp only [Function.comp]
    rw [Flt.fla_flt, (hh x (List.mem_reverse.1 hx)).2.1]
    rfl
  have hargs : argsE f p 0 (decide ((1000 : Int) < (out.reverse.map Flt.fla).length)) (out.reverse.map Flt.fla) = 0 := by
    have hb : decide ((1000 : Int) < ((out.reverse.map Flt.fla).length : Int)) = false := by simp; omega
    rw [hb]
    unfold argsE
    rw [if_neg, if_neg (by decide), if_neg (by simp [hf]), if_neg]
    · rw [allHold, Bool.not_eq_false, List.all_eq_true]
      intro y hy
      obtain ⟨x, hx, rfl⟩ := List.mem_map.1 hy
      rw [Flt.fla_flt, (hh x (List.mem_reverse.1 hx)).2.1]
    · rw [anyLarge, List.any_eq_true]
      rintro ⟨y, hy, hl⟩
      obtain ⟨x, hx, rfl⟩ := List.mem_map.1 hy
      have h1 := len_bl (hh x (List.mem_reverse.1 hx)).1.fine.v
      have h2 : 4096 < (nat x.v).length := by simpa using hl
      omega
  have hL : ∀ x ∈ out.reverse, x.k = 1 → tiny f p ≤ x.e := fun x hx _ => (hh x (List.mem_reverse.1 hx)).1.low
  have hany : (out.reverse.any fun x => x.k == 2 || x.k == 3) = false := by
    rw [List.any_eq_false]
    intro x hx
    have := (hh x (List.mem_reverse.1 hx)).1.k
    simp [this]
  obtain ⟨k1, k2⟩ := float_kinds hf hL hany
  rw [svs_reverse, expX_sum h] at k1 k2
  rw [totalP, if_pos hargs, hheld]
  refine ⟨rfl, fun s hs => ?_, fun ho => ?_⟩
  · cases out with
    | nil => simp at hs
    | cons a t =>
      obtain ⟨hR, he, _⟩ := expX_head h
      simp only [List.getElem?_cons_zero, Option.some.injEq] at hs
      subst hs
      rw [k2 hR, he]
  · subst ho
    exact k1 (expX_nil h)
theorem SumParts_does {f p : Int} {l : List Fla} (hl : ∀ x ∈ l, Ws x.m ∧ I64 x.e) : Does Tryz.prog Gv 9 [Fm f p, Rows l] (.v (.c (.b true))) := by
  by_cases h30 : 30 < l.length
  · have d1 : (30 : Int) < l.length := by omega
    refine Does.of (nt := 163) Tryz.func9 rfl rfl rfl (by simp) ?_
    simp only [argTm, PV.ext, Ce.ext]
    refine Do.seqk fun _ k1_ => ?_
    refine Do.region [1,2] true ?_
    simp [go_sem, d1]
    apply k1_; clear k1_
    refine Do.seqk fun _ k2_ => ?_
    refine Do.seqk fun _ k3_ => ?_
    refine Do.region [1,2,22] true ?_
    simp [go_sem, d1]
    repeat (refine And.intro (by first | omega | (intros; omega) | (intros; exact And.intro (by assumption) (by omega)) | grind) ?_)
    refine DoL.gOff true 106 rfl rfl (.v (.c (.b false))) rfl ?_
    simp [go_sem, d1]
    repeat (refine And.intro (by first | omega | (intros; omega) | (intros; exact And.intro (by assumption) (by omega)) | grind) ?_)
    apply k3_; clear k3_
    refine Do.cond [1,2] rfl (fun h => ?_) (fun h => ?_) <;> simp [go_sem, d1] at h ⊢
    refine Do.seqk fun _ k4_ => ?_
    refine Do.region [4] true ?_
    simp [go_sem, d1]
    refine DoL.call true 201 rfl rfl rfl rfl (by first | exact trivial | omega | (simp; done) | (simp; omega)) (awake_does) rfl (by first | exact .inl rfl | exact .inr rfl) rfl ?_
    simp [go_sem, d1]
    apply k4_; clear k4_
    refine Do.ret ?_
    simp [endQ, rets, ret1, go_sem, d1]
    repeat (refine And.intro (by first | omega | (intros; omega) | (intros; exact And.intro (by assumption) (by omega)) | grind) ?_)
    exact TLe.refl _
  have d2 : ¬ (30 : Int) < l.length := by omega
  have hS : Does Tryz.prog Gv 10 [Rows l] (.v (.c (.b (shortP l)))) := Short15_does (l := l) (by omega)
  cases hs : shortP l with
  | false =>
    rw [hs] at hS
    refine Does.of (nt := 163) Tryz.func9 rfl rfl rfl (by simp) ?_
    simp only [argTm, PV.ext, Ce.ext]
    refine Do.seqk fun _ k1_ => ?_
    refine Do.region [1,2] true ?_
    simp [go_sem, d2]
    apply k1_; clear k1_
    refine Do.seqk fun _ k2_ => ?_
    refine Do.seqk fun _ k3_ => ?_
    refine Do.region [1,2,22] true ?_
    simp [go_sem, d2]
    repeat (refine And.intro (by first | omega | (intros; omega) | (intros; exact And.intro (by assumption) (by omega)) | grind) ?_)
    refine DoL.callg true 106 rfl rfl rfl rfl rfl (by simp [go_sem] <;> omega) (fun _ => hS) rfl (by first | exact .inl rfl | exact .inr rfl) rfl ?_
    simp [go_sem, d2]
    repeat (refine And.intro (by first | omega | (intros; omega) | (intros; exact And.intro (by assumption) (by omega)) | grind) ?_)
    apply k3_; clear k3_
    refine Do.cond [1,2] rfl (fun h => ?_) (fun h => ?_) <;> simp [go_sem, d2] at h ⊢
    refine Do.seqk fun _ k4_ => ?_
    refine Do.region [4] true ?_
    simp [go_sem, d2]
    refine DoL.call true 201 rfl rfl rfl rfl (by first | exact trivial | omega | (simp; done) | (simp; omega)) (awake_does) rfl (by first | exact .inl rfl | exact .inr rfl) rfl ?_
    simp [go_sem, d2]
    apply k4_; clear k4_
    refine Do.ret ?_
    simp [endQ, rets, ret1, go_sem, d2]
    repeat (refine And.intro (by first | omega | (intros; omega) | (intros; exact And.intro (by assumption) (by omega)) | grind) ?_)
    exact TLe.refl _
  | true =>
    rw [hs] at hS
    have ho : ∀ x ∈ l, x.Ok := fun x hx => by
      have h1 : ∀ x ∈ l, x.m.length ≤ 40 := by simpa [shortP] using hs
      have := h1 x hx
      exact ⟨by simp [Sh]; omega, (hl x hx).1, (hl x hx).2⟩
    have hb : decide ((1000 : Int) < l.length) = false := by simp; omega
    by_cases he : argsE f p 0 false l = 0
    case neg =>
      have hX := @Expand_err f p l (by omega) ho (by rw [hb]; exact he)
      rw [hb] at hX
      generalize argsE f p 0 false l = ae at *
      refine Does.of (nt := 163) Tryz.func9 rfl rfl rfl (by simp) ?_
      simp only [argTm, PV.ext, Ce.ext]
      refine Do.seqk fun _ k1_ => ?_
      refine Do.region [1,2] true ?_
      simp [go_sem, d2]
      apply k1_; clear k1_
      refine Do.seqk fun _ k2_ => ?_
      refine Do.seqk fun _ k3_ => ?_
      refine Do.region [1,2,22] true ?_
      simp [go_sem, d2]
      repeat (refine And.intro (by first | omega | (intros; omega) | (intros; exact And.intro (by assumption) (by omega)) | grind) ?_)
      refine DoL.callg true 106 rfl rfl rfl rfl rfl (by simp [go_sem] <;> omega) (fun _ => hS) rfl (by first | exact .inl rfl | exact .inr rfl) rfl ?_
      simp [go_sem, d2]
      repeat (refine And.intro (by first | omega | (intros; omega) | (intros; exact And.intro (by assumption) (by omega)) | grind) ?_)
      apply k3_; clear k3_
      refine Do.cond [1,2] rfl (fun h => ?_) (fun h => ?_) <;> simp [go_sem, d2] at h ⊢
      refine Do.skip ?_
      simp [go_sem]
      apply k2_; clear k2_
      refine Do.seqk fun _ k4_ => ?_
      refine Do.region [1,2,5,6] true ?_
      simp [go_sem, d2]
      repeat (refine And.intro (by first | omega | (intros; omega) | (intros; exact And.intro (by assumption) (by omega)) | grind) ?_)
      refine DoL.call true 303 rfl rfl rfl rfl (by first | exact trivial | omega | (simp; done) | (simp; omega)) (hX) rfl (by first | exact .inl rfl | exact .inr rfl) rfl ?_
      simp [go_sem, d2]
      apply k4_; clear k4_
      refine Do.seqk fun _ k5_ => ?_
      refine Do.seqk fun _ k6_ => ?_
      refine Do.region [1,2,5,31] true ?_
      simp [go_sem, d2]
      apply k6_; clear k6_
      refine Do.cond [1,2,5] rfl (fun h => ?_) (fun h => ?_) <;> simp [go_sem, d2] at h ⊢
      · refine Do.seqk fun _ k7_ => ?_
        refine Do.region [4] true ?_
        simp [go_sem, d2]
        refine DoL.call true 501 rfl rfl rfl rfl (by first | exact trivial | omega | (simp; done) | (simp; omega)) (awake_does) rfl (by first | exact .inl rfl | exact .inr rfl) rfl ?_
        simp [go_sem, d2]
        apply k7_; clear k7_
        refine Do.ret ?_
        simp [endQ, rets, ret1, go_sem, d2]
        repeat (refine And.intro (by first | omega | (intros; omega) | (intros; exact And.intro (by assumption) (by omega)) | grind) ?_)
        exact TLe.refl _
      · exact absurd h he
    have hX := @SExpand_does f p l (by omega) ho (by rw [hb]; exact he)
    obtain ⟨h1, h2, h3, h4, h5, h6⟩ := argsE_zero he
    obtain ⟨b1, b2, b3, b4⟩ := fmOk_spec h5
    obtain ⟨b5, b6⟩ := gOfE_le b1 b2
    have htd : tiny f p = 1 - gOfE f - (p - 1) := rfl
    have hrt := held_rt h6 ho h1
    have hlen := sum_bl h5 (by simp [heldL]; omega) (held_top h5 h6)
    have hall := fun x hx => (List.all_eq_true.1 h6 x hx : (holdsP f p x.flt).2 = true)
    cases hE : expandP f p (heldL f p l) with
    | none =>
      rw [hE] at hX
      have hX : Does Tryz.prog Gv 27 [Fm f p, Rows l] (.t [.c .z, .c (.i .i64 4)]) := hX
      refine Does.of (nt := 163) Tryz.func9 rfl rfl rfl (by simp) ?_
      simp only [argTm, PV.ext, Ce.ext]
      refine Do.seqk fun _ k1_ => ?_
      refine Do.region [1,2] true ?_
      simp [go_sem, d2]
      apply k1_; clear k1_
      refine Do.seqk fun _ k2_ => ?_
      refine Do.seqk fun _ k3_ => ?_
      refine Do.region [1,2,22] true ?_
      simp [go_sem, d2]
      repeat (refine And.intro (by first | omega | (intros; omega) | (intros; exact And.intro (by assumption) (by omega)) | grind) ?_)
      refine DoL.callg true 106 rfl rfl rfl rfl rfl (by simp [go_sem] <;> omega) (fun _ => hS) rfl (by first | exact .inl rfl | exact .inr rfl) rfl ?_
      simp [go_sem, d2]
      repeat (refine And.intro (by first | omega | (intros; omega) | (intros; exact And.intro (by assumption) (by omega)) | grind) ?_)
      apply k3_; clear k3_
      refine Do.cond [1,2] rfl (fun h => ?_) (fun h => ?_) <;> simp [go_sem, d2] at h ⊢
      refine Do.skip ?_
      simp [go_sem]
      apply k2_; clear k2_
      refine Do.seqk fun _ k4_ => ?_
      refine Do.region [1,2,5,6] true ?_
      simp [go_sem, d2]
      repeat (refine And.intro (by first | omega | (intros; omega) | (intros; exact And.intro (by assumption) (by omega)) | grind) ?_)
      refine DoL.call true 303 rfl rfl rfl rfl (by first | exact trivial | omega | (simp; done) | (simp; omega)) (hX) rfl (by first | exact .inl rfl | exact .inr rfl) rfl ?_
      simp [go_sem, d2]
      apply k4_; clear k4_
      refine Do.seqk fun _ k5_ => ?_
      refine Do.seqk fun _ k6_ => ?_
      refine Do.region [1,2,5,31] true ?_
      simp [go_sem, d2]
      apply k6_; clear k6_
      refine Do.cond [1,2,5] rfl (fun h => ?_) (fun h => ?_) <;> simp [go_sem, d2] at h ⊢
      refine Do.seqk fun _ k7_ => ?_
      refine Do.region [4] true ?_
      simp [go_sem, d2]
      refine DoL.call true 501 rfl rfl rfl rfl (by first | exact trivial | omega | (simp; done) | (simp; omega)) (awake_does) rfl (by first | exact .inl rfl | exact .inr rfl) rfl ?_
      simp [go_sem, d2]
      apply k7_; clear k7_
      refine Do.ret ?_
      simp [endQ, rets, ret1, go_sem, d2]
      repeat (refine And.intro (by first | omega | (intros; omega) | (intros; exact And.intro (by assumption) (by omega)) | grind) ?_)
      exact TLe.refl _
    | some out =>
      rw [hE] at hX
      have hX : Does Tryz.prog Gv 27 [Fm f p, Rows l] (.t [.s true (out.map Flt.cs), .c (.i .i64 0)]) := hX
      have hex : expX f p (bl (svs (tiny f p) (heldL f p l)).natAbs + 1) (svs (tiny f p) (heldL f p l)) = some out := by
        rw [expandP] at hE
        split at hE
        · cases hE
        · exact hE
      have hol : out.length ≤ 200001 := by have := expX_len hex; omega
      have hsum := expX_sum hex
      have hhold := expX_holds h5 hex
      have hdesc := expX_desc h5 hex
      have hfewo : out.length ≤ 120 := expand_few h5 (by simp [heldL]; omega) (fun x hx hk => by
        have h7 := held_top h5 h6 x hx hk
        refine ⟨h7.1, ?_⟩
        simp only [heldL, List.mem_map] at hx
        obtain ⟨y, hy, rfl⟩ := hx
        exact held_few (hall y hy) hk) hex
      obtain ⟨tb0, tb1, tb2⟩ := total_back h5 hex (by omega)
      have hcnt : (out.length : Int) ≤ (gOfE f + 1 - (1 - gOfE f - (p - 1))) / p + 2 := by
        cases out with
        | nil =>
          have : 0 ≤ (gOfE f + 1 - (1 - gOfE f - (p - 1))) / p := Int.ediv_nonneg (by omega) (by omega)
          simp only [List.length_nil]
          omega
        | cons s t =>
          have hc := expX_count h5 hex
          have hq := (hhold s (List.mem_cons_self ..)).2.2
          have : (t.length : Int) ≤ (gOfE f + 1 - (1 - gOfE f - (p - 1))) / p := Int.le_ediv_of_mul_le (by omega) (by omega)
          rw [List.length_cons]
          omega
      have hW : sumF 1048576 l l.length = svs (-(1048576 : Nat)) out := by
        rw [@sumF_all 1048576 f p l (fun x hx => ⟨hall x hx, fun hk => (canon_one (hrt x hx).can hk).1⟩)]
        rw [svs_lowK (z := tiny f p) (by omega) (fun x hx hk => (held_top h5 h6 x hx hk).1), svs_lowK (z := tiny f p) (by omega) (fun x hx hk => (hhold x hx).1.low), hsum]
      have hfew : ∀ s, bl (svs (-(1048576 : Nat)) (out.drop s)).natAbs ≤ 3000000 := fun s => by
        refine svs_few (by decide) (by rw [List.length_drop]; omega) (fun x hx hk => ?_)
        have h7 := hhold x (List.mem_of_mem_drop hx)
        have h8 := h7.1.low
        exact ⟨by omega, by have := h7.2.2; omega⟩
      have hfl : ∀ x ∈ l, bl (fv (-(1048576 : Nat)) x.flt).natAbs ≤ 2400000 := fun x hx => by
        obtain ⟨z, d, _, _, h9⟩ := @FRatK Gv x (hrt x hx)
        exact h9
      have hsb := @sumF_bl 1048576 l hfl
      have i0 : Does Tryz.prog Gv 43 [.c (.i .i64 0), .c (.i .i64 1)] (.v (Qv 0 1)) := @QFrom Gv 0 (by decide)
      have r1 := @RRightF_does Gv f p
      rw [h5] at r1
      have g1 := @RGreatest_does Gv f p h5
      have t1 := @RTiny_does Gv f p h5
      have hTot := @Total_does f p 0 (out.reverse.map Flt.fla) (by simp; omega) (fun x hx => by
        obtain ⟨y, hy, rfl⟩ := List.mem_map.1 hx
        have hf := (hhold y (List.mem_reverse.1 hy)).1.fine
        exact ⟨hf.sh, nat_ws _, hf.e⟩)
      have hrows : Rows (out.reverse.map Flt.fla) = .s false (out.reverse.map Flt.cs) := by
        show PV.s false ((out.reverse.map Flt.fla).map Fla.cs) = _
        rw [List.map_map]; rfl
      rw [hrows] at hTot
      have hz0 : svs (-(1048576 : Nat)) (out.drop out.length) = 0 := by rw [List.drop_length]; rfl
      have hQ0 : 0 ≤ (gOfE f + 1 - (1 - gOfE f - (p - 1))) / p := Int.ediv_nonneg (by omega) (by omega)
      have hQ1 : (gOfE f + 1 - (1 - gOfE f - (p - 1))) / p ≤ gOfE f + 1 - (1 - gOfE f - (p - 1)) := Int.ediv_le_self _ (by omega)
      have q1 : -9223372036854775808 ≤ (gOfE f + 1 - (1 - gOfE f - (p - 1))) / p := Int.le_trans (by decide) hQ0
      have q2 : (gOfE f + 1 - (1 - gOfE f - (p - 1))) / p ≤ 9223372036854775807 := Int.le_trans hQ1 (by omega)
      have q34 : ∀ q : Int, 0 ≤ q → q ≤ 100000 → -9223372036854775808 ≤ q + 2 ∧ q + 2 ≤ 9223372036854775807 := fun q h1 h2 => by omega
      have q3 := q34 _ hQ0 (Int.le_trans hQ1 (by omega))
      have hcn : ¬ (gOfE f + 1 - (1 - gOfE f - (p - 1))) / p + 2 < (out.length : Int) := Int.not_lt.2 hcnt
      obtain ⟨W, hWe⟩ : ∃ W, svs (-(1048576 : Nat)) out = W := ⟨_, rfl⟩
      have hWb : bl W.natAbs ≤ 3000000 := by have := hfew 0; rw [List.drop_zero, hWe] at this; exact this
      rw [hWe] at hW
      have hTT : ∀ s, bl (W - svs (-(1048576 : Nat)) (out.drop s)).natAbs ≤ 3000001 := fun s => by
        have h1 := bl_sub_le W (svs (-(1048576 : Nat)) (out.drop s))
        have h2 := hfew s
        omega
      have hTot : Does Tryz.prog Gv 20 [Fm f p, .c (.i .i64 0), .s false (out.reverse.map Flt.cs)] (.t [(totalP f p 0 (out.reverse.map Flt.fla)).1.pv, .c (.i .i64 (totalP f p 0 (out.reverse.map Flt.fla)).2.1), .c (.i .i64 0)]) := by
        have := hTot
        unfold Res at this
        rw [tb0] at this
        exact this
      generalize (totalP f p 0 (out.reverse.map Flt.fla)).1 = y at *
      generalize (totalP f p 0 (out.reverse.map Flt.fla)).2.1 = fl at *
      have hs0 : sumF 1048576 l 0 = 0 := rfl
      by_cases hnil : out = []
      · subst hnil
        have hyk := tb2 rfl
        simp only [List.reverse_nil, List.map_nil] at hTot
        obtain ⟨yk, yn, ye, yv⟩ := y
        simp only [] at hyk
        subst hyk
        refine Does.of (nt := 163) Tryz.func9 rfl rfl rfl (by simp) ?_
        simp only [argTm, PV.ext, Ce.ext]
        refine Do.seqk fun _ k1_ => ?_
        refine Do.region [1,2] true ?_
        simp [go_sem, d2]
        apply k1_; clear k1_
        refine Do.seqk fun _ k2_ => ?_
        refine Do.seqk fun _ k3_ => ?_
        refine Do.region [1,2,22] true ?_
        simp [go_sem, d2]
        repeat (refine And.intro (by first | omega | (intros; omega) | (intros; exact And.intro (by assumption) (by omega)) | grind) ?_)
        refine DoL.callg true 106 rfl rfl rfl rfl rfl (by simp [go_sem] <;> omega) (fun _ => hS) rfl (by first | exact .inl rfl | exact .inr rfl) rfl ?_
        simp [go_sem, d2]
        repeat (refine And.intro (by first | omega | (intros; omega) | (intros; exact And.intro (by assumption) (by omega)) | grind) ?_)
        apply k3_; clear k3_
        refine Do.cond [1,2] rfl (fun h => ?_) (fun h => ?_) <;> simp [go_sem, d2] at h ⊢
        refine Do.skip ?_
        simp [go_sem]
        apply k2_; clear k2_
        refine Do.seqk fun _ k4_ => ?_
        refine Do.region [1,2,5,6] true ?_
        simp [go_sem, d2]
        repeat (refine And.intro (by first | omega | (intros; omega) | (intros; exact And.intro (by assumption) (by omega)) | grind) ?_)
        refine DoL.call true 303 rfl rfl rfl rfl (by first | exact trivial | omega | (simp; done) | (simp; omega)) (hX) rfl (by first | exact .inl rfl | exact .inr rfl) rfl ?_
        simp [go_sem, d2]
        apply k4_; clear k4_
        refine Do.seqk fun _ k5_ => ?_
        refine Do.seqk fun _ k6_ => ?_
        refine Do.region [1,2,5,31] true ?_
        simp [go_sem, d2]
        apply k6_; clear k6_
        refine Do.cond [1,2,5] rfl (fun h => ?_) (fun h => ?_) <;> simp [go_sem, d2] at h ⊢
        refine Do.skip ?_
        simp [go_sem]
        apply k5_; clear k5_
        refine Do.seqk fun _ k7_ => ?_
        refine Do.region [1,2,5,7] true ?_
        simp [go_sem, d2]
        repeat (refine And.intro (by first | omega | (intros; omega) | (intros; exact And.intro (by assumption) (by omega)) | grind) ?_)
        refine DoL.call true 602 rfl rfl rfl rfl (by first | exact trivial | omega | (simp; done) | (simp; omega)) (Fmt_does) rfl (by first | exact .inl rfl | exact .inr rfl) rfl ?_
        simp [go_sem, d2]
        repeat (refine And.intro (by first | omega | (intros; omega) | (intros; exact And.intro (by assumption) (by omega)) | grind) ?_)
        apply k7_; clear k7_
        refine Do.seqk fun _ k8_ => ?_
        refine Do.seqk fun _ k9_ => ?_
        refine Do.draw [1,2,5,52] true (by kernel_rfl) ?_
        simp [go_sem, d2]
        repeat (refine And.intro (by first | omega | (intros; omega) | (intros; exact And.intro (by assumption) (by omega)) | kernel_rfl | grind) ?_)
        refine DoLD.call true 702 rfl rfl rfl rfl (by first | exact trivial | omega | (simp; done) | (simp; omega)) (r1) rfl (by first | exact .inl rfl | exact .inr rfl) rfl ?_
        simp [go_sem, d2]
        repeat (refine And.intro (by first | omega | (intros; omega) | (intros; exact And.intro (by assumption) (by omega)) | kernel_rfl | grind) ?_)
        refine DoLD.callg true 708 rfl rfl rfl rfl rfl (by simp [go_sem] <;> omega) (fun _ => g1) rfl (by first | exact .inl rfl | exact .inr rfl) rfl ?_
        simp [go_sem, d2]
        repeat (refine And.intro (by first | omega | (intros; omega) | (intros; exact And.intro (by assumption) (by omega)) | kernel_rfl | grind) ?_)
        refine DoLD.callg true 711 rfl rfl rfl rfl rfl (by simp [go_sem] <;> omega) (fun _ => t1) rfl (by first | exact .inl rfl | exact .inr rfl) rfl ?_
        simp [go_sem, d2]
        repeat (refine And.intro (by first | omega | (intros; omega) | (intros; exact And.intro (by assumption) (by omega)) | kernel_rfl | grind) ?_)
        try (refine And.intro (by kernel_rfl) ?_)
        apply k9_; clear k9_
        refine Do.cond [1,2,5] rfl (fun hc => ?_) (fun hc => ?_) <;> simp [go_sem, d2] at hc ⊢
        · exact absurd hc hcn
        · refine Do.skip ?_
          simp [go_sem]
          apply k8_; clear k8_
          refine Do.seqk fun _ k10_ => ?_
          refine Do.region [1,2,5,8] true ?_
          simp [go_sem, d2]
          refine DoL.call true 901 rfl rfl rfl rfl (by first | exact trivial | omega | (simp; done) | (simp; omega)) (i0) rfl (by first | exact .inl rfl | exact .inr rfl) rfl ?_
          simp [go_sem, d2]
          repeat (refine And.intro (by first | omega | (intros; omega) | (intros; exact And.intro (by assumption) (by omega)) | grind) ?_)
          apply k10_; clear k10_
          refine Do.seqk fun _ k11_ => ?_
          refine Do.seqk fun _ k12_ => ?_
          refine Do.region [1,2,5,8,9] true ?_
          simp [go_sem, d2]
          apply k12_; clear k12_
          refine Do.block ?_
          refine Do.loopF [1,2,5,8,9] (fun (v : Nat × Int × Nat) => [(9, .int .i64 v.1)]) (fun (v : Nat × Int × Nat) => [(901, .box [.b (decide (v.2.1 < 0)), .w false (nat v.2.1.natAbs), .w false (nat v.2.2)])]) (fun (v : Nat × Int × Nat) => v.1 ≤ l.length ∧ Dq 1048576 v.2.1 v.2.2 (sumF 1048576 l v.1)) (fun (v : Nat × Int × Nat) => l.length - v.1) ((0, 0, 1)) (fun _ => by first | (simp [go_sem, mixS]; done) | (simp [go_sem, mixS]; rfl)) (St.le_of (by first | rfl | simp [keep]) (by first | rfl | simp [keep])) (⟨Nat.zero_le _, by rw [hs0]; exact Dq.zero _⟩) ?_
          rintro ⟨i, z, d⟩ ⟨hi, hD⟩
          simp only at hi hD
          refine Do.seqk fun _ k13_ => ?_
          refine Do.seqk fun _ k14_ => ?_
          refine Do.region [1,2,5,8,9,57] true ?_
          simp [go_sem, d2]
          repeat (refine And.intro (by first | omega | (intros; omega) | (intros; exact And.intro (by assumption) (by omega)) | grind) ?_)
          apply k14_; clear k14_
          refine Do.cond [1,2,5,8,9] rfl (fun h2 => ?_) (fun h2 => ?_) <;> simp [go_sem, d2] at h2 ⊢
          · obtain ⟨x, hx⟩ : ∃ x, l[i]? = some x := ⟨_, List.getElem?_eq_getElem h2⟩
            obtain ⟨zx, dx, f1, f2, f3⟩ := @FRatK Gv x (hrt x (List.mem_of_getElem? hx))
            have hb1 := hsb i hi
            obtain ⟨z', d', A1, A2⟩ := @QAdd Gv _ _ _ _ _ _ _ hD f2 (by decide) (by omega) (by omega)
            refine Do.skip ?_
            simp [go_sem]
            apply k13_; clear k13_
            refine Do.seqk fun _ k15_ => ?_
            refine Do.block ?_
            refine Do.draw [1,2,5,8,9] true (by kernel_rfl) ?_
            simp [go_sem, hx]
            repeat (refine And.intro (by first | omega | (intros; omega) | (intros; exact And.intro (by assumption) (by omega)) | kernel_rfl | grind) ?_)
            refine DoLD.call true 1306 rfl rfl rfl rfl (by first | exact trivial | omega | (simp; done) | (simp; omega)) (Their_does) rfl (by first | exact .inl rfl | exact .inr rfl) rfl ?_
            simp [go_sem, hx]
            refine DoLD.call true 1307 rfl rfl rfl rfl (by first | exact trivial | omega | (simp; done) | (simp; omega)) (f1) rfl (by first | exact .inl rfl | exact .inr rfl) rfl ?_
            simp [go_sem, hx]
            refine DoLD.call true 1308 rfl rfl rfl rfl (by first | exact trivial | omega | (simp; done) | (simp; omega)) (A1) rfl (by first | exact .inl rfl | exact .inr rfl) rfl ?_
            simp [go_sem, hx]
            repeat (refine And.intro (by first | omega | (intros; omega) | (intros; exact And.intro (by assumption) (by omega)) | kernel_rfl | grind) ?_)
            try (refine And.intro (by kernel_rfl) ?_)
            apply k15_; clear k15_
            refine Do.region [1,2,5,8,9] true ?_
            simp [go_sem, hx]
            repeat (refine And.intro (by first | omega | (intros; omega) | (intros; exact And.intro (by assumption) (by omega)) | grind) ?_)
            refine ⟨(i + 1, z', d'), St.le_of (by first | rfl | simp [keep]) (by first | rfl | simp [keep]), ⟨by omega, by rw [sumF_next hx]; exact A2⟩, by simp; omega⟩
          · obtain rfl : i = l.length := by omega
            rw [hW] at hD
            refine Do.exit ?_
            simp [go_sem]
            apply k11_; clear k11_
            refine Do.seqk fun _ k16_ => ?_
            refine Do.region [2,5,8,10] true ?_
            simp [go_sem, d2]
            apply k16_; clear k16_
            refine Do.seqk fun _ k17_ => ?_
            refine Do.seqk fun _ k18_ => ?_
            refine Do.region [2,5,8,10,11] true ?_
            simp [go_sem, d2]
            repeat (refine And.intro (by first | omega | (intros; omega) | (intros; exact And.intro (by assumption) (by omega)) | grind) ?_)
            apply k18_; clear k18_
            refine Do.block ?_
            refine Do.own 10 900 4 rfl rfl (by decide) ?_
            simp [go_sem]
            refine Do.loopF [2,5,8,10,11] (fun (v : Unit) => [(10, .v (.c (.r 900 0))), (11, .int .i64 (-1))]) (fun (v : Unit) => [(901, .box [.b (decide (z < 0)), .w false (nat z.natAbs), .w false (nat d)]), (900, .sr 4 [])]) (fun (v : Unit) => True) (fun (v : Unit) => 0) (()) (fun _ => by first | (simp [go_sem, mixS]; done) | (simp [go_sem, mixS]; rfl)) (St.le_of (by first | rfl | simp [keep]) (by first | rfl | simp [keep])) (trivial) ?_
            intro _ _
            refine Do.seqk fun _ k19_ => ?_
            refine Do.seqk fun _ k20_ => ?_
            refine Do.region [2,5,8,10,11,72] true ?_
            simp [go_sem, d2]
            apply k20_; clear k20_
            refine Do.cond [2,5,8,10,11] rfl (fun h3 => ?_) (fun h3 => ?_) <;> simp [go_sem, d2] at h3 ⊢
            have hD1 : Dq 1048576 z d 0 := by
              have h9 := hD
              rw [← hWe] at h9
              exact h9
            have hSg : Does Tryz.prog Gv 47 [Qv z d] (.int .i64 0) := @QSign Gv 1048576 z 0 d hD1 (by decide)
            refine Do.exit ?_
            simp [go_sem]
            apply k17_; clear k17_
            refine Do.seqk fun _ k21_ => ?_
            refine Do.region [5,8,12,14] true ?_
            simp [go_sem, d2]
            repeat (refine And.intro (by first | omega | (intros; omega) | (intros; exact And.intro (by assumption) (by omega)) | grind) ?_)
            refine DoL.sealS true 2402 900 rfl ?_
            simp [go_sem]
            refine DoL.call true 2403 rfl rfl rfl rfl (by first | exact trivial | omega | (simp; done) | (simp; omega)) (hTot) rfl (by first | exact .inl rfl | exact .inr rfl) rfl ?_
            simp [go_sem, d2]
            repeat (refine And.intro (by first | omega | (intros; omega) | (intros; exact And.intro (by assumption) (by omega)) | grind) ?_)
            apply k21_; clear k21_
            refine Do.seqk fun _ k22_ => ?_
            refine Do.draw [4] true (by kernel_rfl) ?_
            simp [go_sem, d2]
            repeat (refine And.intro (by first | omega | (intros; omega) | (intros; exact And.intro (by assumption) (by omega)) | kernel_rfl | grind) ?_)
            refine DoLD.call true 2502 rfl rfl rfl rfl (by first | exact trivial | omega | (simp; done) | (simp; omega)) (hSg) rfl (by first | exact .inl rfl | exact .inr rfl) rfl ?_
            simp [go_sem, d2]
            repeat (refine And.intro (by first | omega | (intros; omega) | (intros; exact And.intro (by assumption) (by omega)) | kernel_rfl | grind) ?_)
            refine DoLD.gOff true 2516 rfl rfl (.v (Fl 0 false 0 [])) rfl rfl ?_
            simp [go_sem]
            refine DoLD.gOff true 2517 rfl rfl (.v (.c (.b true))) rfl rfl ?_
            simp [go_sem, d2]
            repeat (refine And.intro (by first | omega | (intros; omega) | (intros; exact And.intro (by assumption) (by omega)) | kernel_rfl | grind) ?_)
            refine DoLD.callg true 2531 rfl rfl rfl rfl rfl (by simp [go_sem] <;> omega) (fun _ => awake_does) rfl (by first | exact .inl rfl | exact .inr rfl) rfl ?_
            simp [go_sem, d2]
            try (refine And.intro (by kernel_rfl) ?_)
            apply k22_; clear k22_
            refine Do.ret ?_
            simp [endQ, rets, ret1, go_sem, d2]
            repeat (refine And.intro (by first | omega | (intros; omega) | (intros; exact And.intro (by assumption) (by omega)) | grind) ?_)
            exact TLe.refl _
      have hpos : 0 < out.length := List.length_pos_iff.2 hnil
      obtain ⟨s0, hx0⟩ : ∃ s0, out[0]? = some s0 := ⟨_, List.getElem?_eq_getElem hpos⟩
      have hys := tb1 s0 hx0
      subst hys
      have hg0 : ∀ h : 0 < out.length, out[0]'h = y := fun h => by rw [List.getElem?_eq_getElem h] at hx0; exact Option.some.inj hx0
      have hsm := Same_same17 (hhold _ (List.mem_of_getElem? hx0)).1.fine
      rw [List.map_reverse] at hTot
      refine Does.of (nt := 163) Tryz.func9 rfl rfl rfl (by simp) ?_
      simp only [argTm, PV.ext, Ce.ext]
      refine Do.seqk fun _ k1_ => ?_
      refine Do.region [1,2] true ?_
      simp [go_sem, d2]
      apply k1_; clear k1_
      refine Do.seqk fun _ k2_ => ?_
      refine Do.seqk fun _ k3_ => ?_
      refine Do.region [1,2,22] true ?_
      simp [go_sem, d2]
      repeat (refine And.intro (by first | omega | (intros; omega) | (intros; exact And.intro (by assumption) (by omega)) | grind) ?_)
      refine DoL.callg true 106 rfl rfl rfl rfl rfl (by simp [go_sem] <;> omega) (fun _ => hS) rfl (by first | exact .inl rfl | exact .inr rfl) rfl ?_
      simp [go_sem, d2]
      repeat (refine And.intro (by first | omega | (intros; omega) | (intros; exact And.intro (by assumption) (by omega)) | grind) ?_)
      apply k3_; clear k3_
      refine Do.cond [1,2] rfl (fun h => ?_) (fun h => ?_) <;> simp [go_sem, d2] at h ⊢
      refine Do.skip ?_
      simp [go_sem]
      apply k2_; clear k2_
      refine Do.seqk fun _ k4_ => ?_
      refine Do.region [1,2,5,6] true ?_
      simp [go_sem, d2]
      repeat (refine And.intro (by first | omega | (intros; omega) | (intros; exact And.intro (by assumption) (by omega)) | grind) ?_)
      refine DoL.call true 303 rfl rfl rfl rfl (by first | exact trivial | omega | (simp; done) | (simp; omega)) (hX) rfl (by first | exact .inl rfl | exact .inr rfl) rfl ?_
      simp [go_sem, d2]
      apply k4_; clear k4_
      refine Do.seqk fun _ k5_ => ?_
      refine Do.seqk fun _ k6_ => ?_
      refine Do.region [1,2,5,31] true ?_
      simp [go_sem, d2]
      apply k6_; clear k6_
      refine Do.cond [1,2,5] rfl (fun h => ?_) (fun h => ?_) <;> simp [go_sem, d2] at h ⊢
      refine Do.skip ?_
      simp [go_sem]
      apply k5_; clear k5_
      refine Do.seqk fun _ k7_ => ?_
      refine Do.region [1,2,5,7] true ?_
      simp [go_sem, d2]
      repeat (refine And.intro (by first | omega | (intros; omega) | (intros; exact And.intro (by assumption) (by omega)) | grind) ?_)
      refine DoL.call true 602 rfl rfl rfl rfl (by first | exact trivial | omega | (simp; done) | (simp; omega)) (Fmt_does) rfl (by first | exact .inl rfl | exact .inr rfl) rfl ?_
      simp [go_sem, d2]
      repeat (refine And.intro (by first | omega | (intros; omega) | (intros; exact And.intro (by assumption) (by omega)) | grind) ?_)
      apply k7_; clear k7_
      refine Do.seqk fun _ k8_ => ?_
      refine Do.seqk fun _ k9_ => ?_
      refine Do.draw [1,2,5,52] true (by kernel_rfl) ?_
      simp [go_sem, d2]
      repeat (refine And.intro (by first | omega | (intros; omega) | (intros; exact And.intro (by assumption) (by omega)) | kernel_rfl | grind) ?_)
      refine DoLD.call true 702 rfl rfl rfl rfl (by first | exact trivial | omega | (simp; done) | (simp; omega)) (r1) rfl (by first | exact .inl rfl | exact .inr rfl) rfl ?_
      simp [go_sem, d2]
      repeat (refine And.intro (by first | omega | (intros; omega) | (intros; exact And.intro (by assumption) (by omega)) | kernel_rfl | grind) ?_)
      refine DoLD.callg true 708 rfl rfl rfl rfl rfl (by simp [go_sem] <;> omega) (fun _ => g1) rfl (by first | exact .inl rfl | exact .inr rfl) rfl ?_
      simp [go_sem, d2]
      repeat (refine And.intro (by first | omega | (intros; omega) | (intros; exact And.intro (by assumption) (by omega)) | kernel_rfl | grind) ?_)
      refine DoLD.callg true 711 rfl rfl rfl rfl rfl (by simp [go_sem] <;> omega) (fun _ => t1) rfl (by first | exact .inl rfl | exact .inr rfl) rfl ?_
      simp [go_sem, d2]
      repeat (refine And.intro (by first | omega | (intros; omega) | (intros; exact And.intro (by assumption) (by omega)) | kernel_rfl | grind) ?_)
      try (refine And.intro (by kernel_rfl) ?_)
      apply k9_; clear k9_
      refine Do.cond [1,2,5] rfl (fun hc => ?_) (fun hc => ?_) <;> simp [go_sem, d2] at hc ⊢
      · exact absurd hc hcn
      · refine Do.skip ?_
        simp [go_sem]
        apply k8_; clear k8_
        refine Do.seqk fun _ k10_ => ?_
        refine Do.region [1,2,5,8] true ?_
        simp [go_sem, d2]
        refine DoL.call true 901 rfl rfl rfl rfl (by first | exact trivial | omega | (simp; done) | (simp; omega)) (i0) rfl (by first | exact .inl rfl | exact .inr rfl) rfl ?_
        simp [go_sem, d2]
        repeat (refine And.intro (by first | omega | (intros; omega) | (intros; exact And.intro (by assumption) (by omega)) | grind) ?_)
        apply k10_; clear k10_
        refine Do.seqk fun _ k11_ => ?_
        refine Do.seqk fun _ k12_ => ?_
        refine Do.region [1,2,5,8,9] true ?_
        simp [go_sem, d2]
        apply k12_; clear k12_
        refine Do.block ?_
        refine Do.loopF [1,2,5,8,9] (fun (v : Nat × Int × Nat) => [(9, .int .i64 v.1)]) (fun (v : Nat × Int × Nat) => [(901, .box [.b (decide (v.2.1 < 0)), .w false (nat v.2.1.natAbs), .w false (nat v.2.2)])]) (fun (v : Nat × Int × Nat) => v.1 ≤ l.length ∧ Dq 1048576 v.2.1 v.2.2 (sumF 1048576 l v.1)) (fun (v : Nat × Int × Nat) => l.length - v.1) ((0, 0, 1)) (fun _ => by first | (simp [go_sem, mixS]; done) | (simp [go_sem, mixS]; rfl)) (St.le_of (by first | rfl | simp [keep]) (by first | rfl | simp [keep])) (⟨Nat.zero_le _, by rw [hs0]; exact Dq.zero _⟩) ?_
        rintro ⟨i, z, d⟩ ⟨hi, hD⟩
        simp only at hi hD
        refine Do.seqk fun _ k13_ => ?_
        refine Do.seqk fun _ k14_ => ?_
        refine Do.region [1,2,5,8,9,57] true ?_
        simp [go_sem, d2]
        repeat (refine And.intro (by first | omega | (intros; omega) | (intros; exact And.intro (by assumption) (by omega)) | grind) ?_)
        apply k14_; clear k14_
        refine Do.cond [1,2,5,8,9] rfl (fun h2 => ?_) (fun h2 => ?_) <;> simp [go_sem, d2] at h2 ⊢
        · obtain ⟨x, hx⟩ : ∃ x, l[i]? = some x := ⟨_, List.getElem?_eq_getElem h2⟩
          obtain ⟨zx, dx, f1, f2, f3⟩ := @FRatK Gv x (hrt x (List.mem_of_getElem? hx))
          have hb1 := hsb i hi
          obtain ⟨z', d', A1, A2⟩ := @QAdd Gv _ _ _ _ _ _ _ hD f2 (by decide) (by omega) (by omega)
          refine Do.skip ?_
          simp [go_sem]
          apply k13_; clear k13_
          refine Do.seqk fun _ k15_ => ?_
          refine Do.block ?_
          refine Do.draw [1,2,5,8,9] true (by kernel_rfl) ?_
          simp [go_sem, hx]
          repeat (refine And.intro (by first | omega | (intros; omega) | (intros; exact And.intro (by assumption) (by omega)) | kernel_rfl | grind) ?_)
          refine DoLD.call true 1306 rfl rfl rfl rfl (by first | exact trivial | omega | (simp; done) | (simp; omega)) (Their_does) rfl (by first | exact .inl rfl | exact .inr rfl) rfl ?_
          simp [go_sem, hx]
          refine DoLD.call true 1307 rfl rfl rfl rfl (by first | exact trivial | omega | (simp; done) | (simp; omega)) (f1) rfl (by first | exact .inl rfl | exact .inr rfl) rfl ?_
          simp [go_sem, hx]
          refine DoLD.call true 1308 rfl rfl rfl rfl (by first | exact trivial | omega | (simp; done) | (simp; omega)) (A1) rfl (by first | exact .inl rfl | exact .inr rfl) rfl ?_
          simp [go_sem, hx]
          repeat (refine And.intro (by first | omega | (intros; omega) | (intros; exact And.intro (by assumption) (by omega)) | kernel_rfl | grind) ?_)
          try (refine And.intro (by kernel_rfl) ?_)
          apply k15_; clear k15_
          refine Do.region [1,2,5,8,9] true ?_
          simp [go_sem, hx]
          repeat (refine And.intro (by first | omega | (intros; omega) | (intros; exact And.intro (by assumption) (by omega)) | grind) ?_)
          refine ⟨(i + 1, z', d'), St.le_of (by first | rfl | simp [keep]) (by first | rfl | simp [keep]), ⟨by omega, by rw [sumF_next hx]; exact A2⟩, by simp; omega⟩
        · obtain rfl : i = l.length := by omega
          rw [hW] at hD
          have hD0 : Dq 1048576 z d (W - svs (-(1048576 : Nat)) (out.drop out.length)) := by rw [hz0, Int.sub_zero]; exact hD
          refine Do.exit ?_
          simp [go_sem]
          apply k11_; clear k11_
          refine Do.seqk fun _ k16_ => ?_
          refine Do.region [2,5,8,10] true ?_
          simp [go_sem, d2]
          apply k16_; clear k16_
          refine Do.seqk fun _ k17_ => ?_
          refine Do.seqk fun _ k18_ => ?_
          refine Do.region [2,5,8,10,11] true ?_
          simp [go_sem, d2]
          repeat (refine And.intro (by first | omega | (intros; omega) | (intros; exact And.intro (by assumption) (by omega)) | grind) ?_)
          apply k18_; clear k18_
          refine Do.block ?_
          refine Do.own 10 900 4 rfl rfl (by decide) ?_
          simp [go_sem]
          refine Do.loopF [2,5,8,10,11] (fun (v : Nat × Int × Nat) => [(10, .v (.c (.r 900 (out.length - v.1)))), (11, .int .i64 ((v.1 : Int) - 1))]) (fun (v : Nat × Int × Nat) => [(901, .box [.b (decide (v.2.1 < 0)), .w false (nat v.2.1.natAbs), .w false (nat v.2.2)]), (900, .sr 4 ((out.drop v.1).reverse.map Flt.cs))]) (fun (v : Nat × Int × Nat) => v.1 ≤ out.length ∧ Dq 1048576 v.2.1 v.2.2 (W - svs (-(1048576 : Nat)) (out.drop v.1))) (fun (v : Nat × Int × Nat) => v.1) ((out.length, z, d)) (fun _ => by first | (simp [go_sem, mixS]; done) | (simp [go_sem, mixS]; rfl)) (St.le_of (by simp [keep]) (by simp [keep])) (⟨Nat.le_refl _, hD0⟩) ?_
          rintro ⟨s, z, d⟩ ⟨hs2, hD⟩
          simp only at hs2 hD
          refine Do.seqk fun _ k19_ => ?_
          refine Do.seqk fun _ k20_ => ?_
          refine Do.region [2,5,8,10,11,72] true ?_
          simp [go_sem, d2]
          apply k20_; clear k20_
          refine Do.cond [2,5,8,10,11] rfl (fun h3 => ?_) (fun h3 => ?_) <;> simp [go_sem, d2] at h3 ⊢
          · obtain ⟨j, rfl⟩ : ∃ j, s = j + 1 := ⟨s - 1, by omega⟩
            obtain ⟨x, hx⟩ : ∃ x, out[j]? = some x := ⟨_, List.getElem?_eq_getElem (by omega)⟩
            obtain ⟨y1, hy1⟩ : ∃ y1, out[j - 1]? = some y1 := ⟨_, List.getElem?_eq_getElem (by omega)⟩
            obtain ⟨ex1, ex2, ex3⟩ := hhold x (List.mem_of_getElem? hx)
            obtain ⟨ey1, ey2, ey3⟩ := hhold y1 (List.mem_of_getElem? hy1)
            have hH := @Holds_flt f p x h5 ex1.fine (by rw [ex2])
            have hxk := ex1.k
            have hpx := @RPlus15_does Gv x ex1.fine ex1.fix
            have hpy := @RPlus15_does Gv y1 ey1.fine ey1.fix
            have hcm : 0 < j → Does Tryz.prog Gv 44 [Flt.pv ⟨y1.k, false, y1.e, y1.v⟩, Flt.pv ⟨x.k, false, x.e, x.v⟩] (.v (.c (.i .i64 1))) := fun hj => Cmp15_does ey1.fine ex1.fine ey1.k ex1.k (by
              have h7 := hdesc (j - 1) y1 x hy1 (by rw [show j - 1 + 1 = j by omega]; exact hx)
              unfold exq at h7
              omega)
            obtain ⟨zx, dx, f1, f2, f3⟩ := @FRatK Gv _ ex1.fine.rt
            rw [Flt.fla_flt] at f2 f3
            have f1 : Does Tryz.prog Gv 38 [Fl x.k x.n x.e (nat x.v)] (.v (Qv zx dx)) := f1
            obtain ⟨z', d', A1, A2⟩ := @QSub Gv _ _ _ _ _ _ _ hD f2 (by decide) (by have := hTT (j + 1); omega) (by omega)
            have hdrop : out.drop j = x :: out.drop (j + 1) := by
              rw [List.drop_eq_getElem_cons (show j < out.length by omega)]
              congr 1
              rw [List.getElem?_eq_getElem (show j < out.length by omega)] at hx
              exact Option.some.inj hx
            have hnext : W - svs (-(1048576 : Nat)) (out.drop (j + 1)) - fv (-(1048576 : Nat)) x = W - svs (-(1048576 : Nat)) (out.drop j) := by
              rw [hdrop, svs_cons]; omega
            rw [hnext] at A2
            have hdm : (List.drop j (out.map Flt.cs)).reverse = (List.drop (j + 1) (out.map Flt.cs)).reverse ++ [x.cs] := by
              rw [← List.map_drop, hdrop, List.map_cons, List.reverse_cons, List.map_drop]
            obtain ⟨xk, xn, xe, xv⟩ := x
            simp only [] at hxk
            subst hxk
            have hjn : ((j : Int) - 1).toNat = j - 1 := by omega
            refine Do.skip ?_
            simp [go_sem]
            apply k19_; clear k19_
            refine Do.seqk fun _ k21_ => ?_
            refine Do.block ?_
            refine Do.seqk fun _ k22_ => ?_
            refine Do.seqk fun _ k23_ => ?_
            refine Do.draw [2,5,8,10,11,89] true (by kernel_rfl) ?_
            simp [go_sem, show ((j : Int) + 1 - 1) = j by omega, hx, hjn, hy1]
            repeat (refine And.intro (by first | omega | (intros; omega) | (intros; exact And.intro (by assumption) (by omega)) | kernel_rfl | grind) ?_)
            refine DoLD.call true 1806 rfl rfl rfl rfl (by first | exact trivial | omega | (simp; done) | (simp; omega)) (hH) rfl (by first | exact .inl rfl | exact .inr rfl) rfl ?_
            simp [go_sem, show ((j : Int) + 1 - 1) = j by omega, hx, hjn, hy1]
            repeat (refine And.intro (by first | omega | (intros; omega) | (intros; exact And.intro (by assumption) (by omega)) | kernel_rfl | grind) ?_)
            try (refine And.intro (by kernel_rfl) ?_)
            apply k23_; clear k23_
            refine Do.cond [2,5,8,10,11] rfl (fun h4 => ?_) (fun h4 => ?_) <;> simp [go_sem, show ((j : Int) + 1 - 1) = j by omega, hx, hjn, hy1] at h4 ⊢
            refine Do.skip ?_
            simp [go_sem]
            apply k22_; clear k22_
            refine Do.seqk fun _ k24_ => ?_
            refine Do.seqk fun _ k25_ => ?_
            refine Do.draw [2,5,8,10,11,108] true (by kernel_rfl) ?_
            simp [go_sem, show ((j : Int) + 1 - 1) = j by omega, hx, hjn, hy1]
            repeat (refine And.intro (by first | omega | (intros; omega) | (intros; exact And.intro (by assumption) (by omega)) | kernel_rfl | grind) ?_)
            refine DoLD.callg true 2009 rfl rfl rfl rfl rfl (by simp [go_sem] <;> omega) (fun _ => Their_does) rfl (by first | exact .inl rfl | exact .inr rfl) rfl ?_
            simp [go_sem, show ((j : Int) + 1 - 1) = j by omega, hx, hjn, hy1]
            refine DoLD.callg true 2010 rfl rfl rfl rfl rfl (by simp [go_sem] <;> omega) (fun _ => hpy) rfl (by first | exact .inl rfl | exact .inr rfl) rfl ?_
            simp [go_sem, show ((j : Int) + 1 - 1) = j by omega, hx, hjn, hy1]
            repeat (refine And.intro (by first | omega | (intros; omega) | (intros; exact And.intro (by assumption) (by omega)) | kernel_rfl | grind) ?_)
            refine DoLD.callg true 2015 rfl rfl rfl rfl rfl (by simp [go_sem] <;> omega) (fun _ => Their_does) rfl (by first | exact .inl rfl | exact .inr rfl) rfl ?_
            simp [go_sem, show ((j : Int) + 1 - 1) = j by omega, hx, hjn, hy1]
            refine DoLD.callg true 2016 rfl rfl rfl rfl rfl (by simp [go_sem] <;> omega) (fun _ => hpx) rfl (by first | exact .inl rfl | exact .inr rfl) rfl ?_
            simp [go_sem, show ((j : Int) + 1 - 1) = j by omega, hx, hjn, hy1]
            refine DoLD.callg true 2017 rfl rfl rfl rfl rfl (by simp [go_sem] <;> omega) (fun hg => hcm (by simpa using hg)) rfl (by first | exact .inl rfl | exact .inr rfl) rfl ?_
            simp [go_sem, show ((j : Int) + 1 - 1) = j by omega, hx, hjn, hy1]
            try (refine And.intro (by kernel_rfl) ?_)
            apply k25_; clear k25_
            refine Do.cond [2,5,8,10,11] rfl (fun h5 => ?_) (fun h5 => ?_) <;> simp [go_sem, show ((j : Int) + 1 - 1) = j by omega, hx, hjn, hy1] at h5 ⊢
            refine Do.skip ?_
            simp [go_sem]
            apply k24_; clear k24_
            refine Do.seqk fun _ k26_ => ?_
            refine Do.draw [2,5,8,10,11] true (by kernel_rfl) ?_
            simp [go_sem, show ((j : Int) + 1 - 1) = j by omega, hx, hjn, hy1]
            repeat (refine And.intro (by first | omega | (intros; omega) | (intros; exact And.intro (by assumption) (by omega)) | kernel_rfl | grind) ?_)
            refine DoLD.call true 2206 rfl rfl rfl rfl (by first | exact trivial | omega | (simp; done) | (simp; omega)) (Their_does) rfl (by first | exact .inl rfl | exact .inr rfl) rfl ?_
            simp [go_sem, show ((j : Int) + 1 - 1) = j by omega, hx, hjn, hy1]
            refine DoLD.call true 2207 rfl rfl rfl rfl (by first | exact trivial | omega | (simp; done) | (simp; omega)) (f1) rfl (by first | exact .inl rfl | exact .inr rfl) rfl ?_
            simp [go_sem, show ((j : Int) + 1 - 1) = j by omega, hx, hjn, hy1]
            refine DoLD.call true 2208 rfl rfl rfl rfl (by first | exact trivial | omega | (simp; done) | (simp; omega)) (A1) rfl (by first | exact .inl rfl | exact .inr rfl) rfl ?_
            simp [go_sem, show ((j : Int) + 1 - 1) = j by omega, hx, hjn, hy1]
            repeat (refine And.intro (by first | omega | (intros; omega) | (intros; exact And.intro (by assumption) (by omega)) | kernel_rfl | grind) ?_)
            try (refine And.intro (by kernel_rfl) ?_)
            apply k26_; clear k26_
            refine Do.region [2,5,8,10,11] true ?_
            simp [go_sem, show ((j : Int) + 1 - 1) = j by omega, hx, show out.length - (j + 1) + 1 = out.length - j by omega]
            repeat (refine And.intro (by first | omega | (intros; omega) | (intros; exact And.intro (by assumption) (by omega)) | grind) ?_)
            apply k21_; clear k21_
            refine Do.region [2,5,8,10,11] true ?_
            simp [go_sem, show ((j : Int) + 1 - 1) = j by omega, hx, show out.length - (j + 1) + 1 = out.length - j by omega]
            repeat (refine And.intro (by first | omega | (intros; omega) | (intros; exact And.intro (by assumption) (by omega)) | grind) ?_)
            refine ⟨(j, z', d'), St.le_of (by simp [keep, show out.length - (j + 1) + 1 = out.length - j by omega]) (by simp [keep, hdm]), ⟨by omega, A2⟩, by simp⟩
          · obtain rfl : s = 0 := by omega
            have hD1 : Dq 1048576 z d 0 := by
              have h9 := hD
              rw [List.drop_zero, hWe, Int.sub_self] at h9
              exact h9
            have hSg : Does Tryz.prog Gv 47 [Qv z d] (.int .i64 0) := @QSign Gv 1048576 z 0 d hD1 (by decide)
            refine Do.exit ?_
            simp [go_sem]
            apply k17_; clear k17_
            refine Do.seqk fun _ k27_ => ?_
            refine Do.region [5,8,12,14] true ?_
            simp [go_sem, List.drop_zero, List.map_reverse, hx0, hpos, hg0]
            repeat (refine And.intro (by first | omega | (intros; omega) | (intros; exact And.intro (by assumption) (by omega)) | grind) ?_)
            refine DoL.sealS true 2402 900 rfl ?_
            simp [go_sem]
            refine DoL.call true 2403 rfl rfl rfl rfl (by first | exact trivial | omega | (simp; done) | (simp; omega)) (hTot) rfl (by first | exact .inl rfl | exact .inr rfl) rfl ?_
            simp [go_sem, List.drop_zero, List.map_reverse, hx0, hpos, hg0]
            repeat (refine And.intro (by first | omega | (intros; omega) | (intros; exact And.intro (by assumption) (by omega)) | grind) ?_)
            apply k27_; clear k27_
            refine Do.seqk fun _ k28_ => ?_
            refine Do.draw [4] true (by kernel_rfl) ?_
            simp [go_sem, List.drop_zero, List.map_reverse, hx0, hpos, hg0]
            repeat (refine And.intro (by first | omega | (intros; omega) | (intros; exact And.intro (by assumption) (by omega)) | kernel_rfl | grind) ?_)
            refine DoLD.call true 2502 rfl rfl rfl rfl (by first | exact trivial | omega | (simp; done) | (simp; omega)) (hSg) rfl (by first | exact .inl rfl | exact .inr rfl) rfl ?_
            simp [go_sem, List.drop_zero, List.map_reverse, hx0, hpos, hg0]
            repeat (refine And.intro (by first | omega | (intros; omega) | (intros; exact And.intro (by assumption) (by omega)) | kernel_rfl | grind) ?_)
            refine DoLD.callg true 2517 rfl rfl rfl rfl rfl (by simp [go_sem] <;> omega) (fun _ => hsm) rfl (by first | exact .inl rfl | exact .inr rfl) rfl ?_
            simp [go_sem, List.drop_zero, List.map_reverse, hx0, hpos, hg0]
            repeat (refine And.intro (by first | omega | (intros; omega) | (intros; exact And.intro (by assumption) (by omega)) | kernel_rfl | grind) ?_)
            refine DoLD.callg true 2531 rfl rfl rfl rfl rfl (by simp [go_sem] <;> omega) (fun _ => awake_does) rfl (by first | exact .inl rfl | exact .inr rfl) rfl ?_
            simp [go_sem, List.drop_zero, List.map_reverse, hx0, hpos, hg0]
            try (refine And.intro (by kernel_rfl) ?_)
            apply k28_; clear k28_
            refine Do.ret ?_
            simp [endQ, rets, ret1, go_sem, List.drop_zero, List.map_reverse, hx0, hpos, hg0]
            repeat (refine And.intro (by first | omega | (intros; omega) | (intros; exact And.intro (by assumption) (by omega)) | grind) ?_)
            exact TLe.refl _
end Go.Proofs.YtdaecibpkhcllaaGreatDoor
/- The row of SumParts. No condition. -/
namespace Go.Proofs.YtdaecibpkhcllaaGreatDoor
set_option linter.unusedVariables false
set_option linter.unusedSimpArgs false
open Go.ChangeShapes Go.WideShapes Go.ChangeAt Go.RowKit
set_option maxRecDepth 100000
namespace sumParts
set_option maxRecDepth 100000 in
theorem lifted (os : Os) (started : os.Started) (H : Type) (enc : TypeId × Value → H) :
    ReturnsInHanded {} Tryz.checked os 9 .any (fun w args => (Rows.sumPartsSpec.pre enc Tryz.prog Tryz.f9 [] false w args ∧ laidMetH Tryz.prog laidL w) ∧ sizedMet enc Tryz.prog Tryz.f9 (OpenSpec.ofChange Rows.sumPartsSpec) false w args)
      (Rows.sumPartsSpec.post enc Tryz.prog Tryz.f9 false true false false) := by
  refine returnsInHanded_of_change_and (C := Tryz.checked) (X := fun w _ => laidMetH Tryz.prog laidL w) (fun _ _ _ hh h => h.of_heap hh) own started (by kernel_rfl) Tryz.func9
    (ChangeSpec.witness_shaped (enc := enc) (C := Tryz.checked) (os := os) (X := fun w _ => laidMetH Tryz.prog laidL w) false (World.doorLaid Tryz.prog doorN os) #[.agg #[.int .i64 0, .int .i64 0], .slice Option.none 0 0] doorK rfl (World.shaped_of_RefB (by kernel_rfl) (by kernel_rfl)) (by kernel_rfl) (by kernel_rfl) (by kernel_rfl) (door_met os _)) ?_
  intro W base args ds gs before hval0 hW _ _ hL _
  have hval : ∀ (j : Nat) t v, Tryz.f9.params[j]? = some t → args[j]? = some v → Value.okWide Tryz.prog W .any base t v := hval0
  have hW' := hW
  obtain ⟨p, q, hA0, hV, rfl, hfz, hnd⟩ := hW
  have hA : DataW.TrodAll enc Tryz.prog W 0 (fun _ => true) true Tryz.f9.params.toList args.toList ds p := hA0
  rw [Tryz.params9] at hA hval
  obtain ⟨v0, vs0, d0, ds0, p0, q0, hargs, rfl, rfl, h0, r0⟩ := trodAll_cons hA
  obtain ⟨v1, vs1, d1, ds1, p1, q1, rfl, rfl, rfl, h1, r1⟩ := trodAll_cons r0
  obtain ⟨rfl, rfl, rfl⟩ := trodAll_nil r1
  obtain rfl : args = #[v0, v1] := by cases args; simp_all
  obtain ⟨rfl, rfl⟩ := trodVars_none hV
  have lt0 : ∀ x ∈ p0, x.block < W.heap.size := by obtain ⟨m, hm⟩ := h0; exact DataW.trod_lt m _ _ _ hm
  have lt1 : ∀ x ∈ p1, x.block < W.heap.size := by obtain ⟨m, hm⟩ := h1; exact DataW.trod_lt m _ _ _ hm
  obtain ⟨f, fp, a0⟩ := arg_fm (hval 0 _ v0 rfl rfl) h0
  obtain ⟨l, wl, a1⟩ := arg_fls (hval 1 _ v1 rfl rfl) h1
  clear hA0 hval0
  refine (law_calls (vals := [v0, v1]) (SumParts_does (f := f) (p := fp) wl) Tryz.func9 rfl rfl (of_laid hL) (.cons a0 (.cons a1 .nil))).mono fun e W' ⟨he, bel⟩ => ?_
  subst he
  exact ⟨_, rfl, _, _, _, [], _, [], hW', trodAll_mk1 (shut_bool Tryz.underlying4 _), (trodAll_cons_mk (Below.trod laidOut (by kernel_rfl) (of_decide_eq_true (by kernel_rfl)) h0 bel lt0) (trodAll_mk1 (Below.trod laidOut (by kernel_rfl) (of_decide_eq_true (by kernel_rfl)) h1 bel lt1))), rfl, bel.frame _, fun h => by cases h⟩
theorem over : Rows.sumPartsRow.holds Tryz.pinned (OpenSpec.ofChange Rows.sumPartsSpec) :=
  OpenClaim.holds_of_wide 9 Tryz.f9 rfl rfl rfl rfl rfl rfl rfl ⟨rfl, rfl, rfl, rfl, rfl⟩ rfl rfl rfl rfl rfl (by kernel_rfl) Tryz.func9 (by kernel_rfl)
    (of_decide_eq_true (by kernel_rfl)) (by unfold Func.isWrapper; first | (rw [if_pos (by decide +kernel)]; kernel_rfl) | (rw [if_neg (by decide +kernel)]; exact ⟨rfl, rfl⟩))
    (fun os started H enc _ => lifted os started H enc)
end sumParts
end Go.Proofs.YtdaecibpkhcllaaGreatDoor
/- The law SumParts holds, for every input: the floats of Expand add up to the exact sum, fall in size, are few, and Total of them, in the other order, is the first one. Conditions: the two listed package variables hold what the program's text lays (tied by the card). -/
namespace Go.Proofs.YtdaecibpkhcllaaGreatDoor
set_option linter.unusedVariables false
set_option linter.unusedSimpArgs false
open Go
theorem sumParts_holds : Rows.SumPartsCardSaid :=
  Claim7.holds_tied_plain_at .later [] [.data, .funcs] true Rows.sumPartsCard.stood.harness false
    sumParts.over (fun _ h => by cases h) (by kernel_rfl) (fun _ h => by cases h) sumParts_row_tie rfl ⟨rfl, rfl⟩ (by kernel_rfl) rfl
    (fun f fn hf hfn => by
      obtain rfl : f = 9 := Option.some.inj ((show Tryz.prog.funcNamed "reckoner/reckonerlaw17.SumParts" = some 9 by kernel_rfl).symm.trans hf) |>.symm
      obtain rfl : fn = Tryz.f9 := (Option.some.inj (Tryz.func9.symm.trans hfn)).symm
      exact ⟨by kernel_rfl, fun j t ht => by
        have hm : t ∈ Tryz.f9.params.toList := by simpa using Array.mem_of_getElem? ht
        have hall : (Tryz.f9.params.toList.all fun u => !Tryz.prog.wantsStandIn u) = true := by kernel_rfl
        exact (show Tryz.prog.wantsStandIn t = false by simpa using List.all_eq_true.1 hall t hm)⟩)
    (by kernel_rfl)
#print axioms sumParts_holds
end Go.Proofs.YtdaecibpkhcllaaGreatDoor
