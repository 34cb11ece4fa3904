/- The law ConvertBits, joined. No condition. -/
import Derived.Test.YtokgalpflooegaaGreatDoorMl
import Derived.Test.YtokgalpflooegaaGreatDoorMk
/- The law ConvertBits, joined. No condition. -/
namespace Go.Proofs.YtokgalpflooegaaGreatDoor
set_option linter.unusedVariables false
set_option linter.unusedSimpArgs false
set_option maxHeartbeats 8000000
set_option maxRecDepth 10000
theorem bits_bl {r : Int} {a : Flt} {b : Nat} {s : Bool} (hb : b ≤ 4096) (hok : a.k = 0 ∨ a.k = 1 → a.e.toNat + bl a.v ≤ 100000) : bl (bitsP r a b s).1.natAbs ≤ 1000000 := by
  have hwb2 := wholeP_bl r ⟨a.n, a.v, a.e⟩
  simp only [] at hwb2
  have hl := lim_bl hb s a.n
  unfold bitsP
  split
  · rename_i h
    simp only []
    rw [sgn_abs]
    have := hok (by omega)
    omega
  · split
    · simp [bl_zero]
    · simp only []
      rw [sgn_abs]; omega
theorem argsC_out {f p r : Int} {x : Fla} (hx : x.m.length ≤ 40) : argsC f p f p r true x = 1 := by
  unfold argsC
  rw [if_neg (by omega), if_pos (by simp)]
theorem ConvertBits_does {f p r : Int} {x : Fla} {bi : Int} {s : Bool} (hx : Ws x.m) (ex : I64 x.e) : Does Tryz.prog Gv 7 [Fm f p, .c (.i .i64 r), Fl x.k x.n x.e x.m, .c (.i .i64 bi), .c (.b s)] (.v (.c (.b true))) := by
  have hS : Does Tryz.prog Gv 10 [.s false [x.cs]] (.v (.c (.b (shortP [x])))) := Short15_does (l := [x]) (by simp)
  cases hs : shortP [x] with
  | false =>
    rw [hs] at hS
    refine Does.of (nt := 95) Tryz.func7 rfl rfl rfl (by simp) ?_
    simp only [argTm, PV.ext, Ce.ext]
    refine Do.seqk fun _ k1_ => ?_
    refine Do.region [1,3,4,5,7] true ?_
    simp [go_sem]
    apply k1_; clear k1_
    refine Do.seqk fun _ k2_ => ?_
    refine Do.seqk fun _ k3_ => ?_
    refine Do.region [1,3,4,5,7,28] true ?_
    simp [go_sem]
    repeat (refine And.intro (by first | omega | (intros; omega) | (intros; exact And.intro (by assumption) (by omega)) | grind) ?_)
    refine DoL.sealS true 102 101 rfl ?_
    simp [go_sem]
    refine DoL.call true 103 rfl rfl rfl rfl (by first | exact trivial | omega | (simp; done) | (simp; omega)) (hS) rfl (by first | exact .inl rfl | exact .inr rfl) rfl ?_
    simp [go_sem]
    repeat (refine And.intro (by first | omega | (intros; omega) | (intros; exact And.intro (by assumption) (by omega)) | grind) ?_)
    apply k3_; clear k3_
    refine Do.cond [1,3,4,5,7] rfl (fun h => ?_) (fun h => ?_) <;> simp [go_sem] at h ⊢
    refine Do.seqk fun _ k4_ => ?_
    refine Do.region [10] true ?_
    simp [go_sem]
    refine DoL.call true 201 rfl rfl rfl rfl (by first | exact trivial | omega | (simp; done) | (simp; omega)) (awake20_does) rfl (by first | exact .inl rfl | exact .inr rfl) rfl ?_
    simp [go_sem]
    apply k4_; clear k4_
    refine Do.ret ?_
    simp [endQ, rets, ret1, go_sem]
    repeat (refine And.intro (by first | omega | (intros; omega) | (intros; exact And.intro (by assumption) (by omega)) | grind) ?_)
    exact TLe.refl _
  | true =>
    rw [hs] at hS
    have hsx : x.m.length ≤ 40 := by simpa [shortP] using hs
    have ox : x.Ok := ⟨by simp [Sh]; omega, hx, ex⟩
    have hA : Does Tryz.prog Gv 13 [Fm f p, .c (.i .i64 r), .s false [x.cs]] (.int .i64 (argsE f p r false [x])) := @KArgs_does Gv f p r [x] (by simp) (by simp [ox])
    have hNo := @NoInt_does20 0 false [] (by decide)
    have hNo : Does Tryz.prog Gv 27 [.a [.b false, .z]] (.v (.c (.b true))) := hNo.weak (.cons (PLe.agg (.cons (PLe.refl _) (.cons (PLe.z false) .nil))) .nil)
    have h2 : argsE f p r false [x] ≠ 2 := by
      rw [← argsC_same]
      unfold argsC
      rw [if_neg (by omega)]
      split
      · omega
      · split
        · omega
        · split <;> omega
    by_cases hbig : 300 < bi ∧ bi ≤ 4094
    · skip
      refine Does.of (nt := 95) Tryz.func7 rfl rfl rfl (by simp) ?_
      simp only [argTm, PV.ext, Ce.ext]
      refine Do.seqk fun _ k1_ => ?_
      refine Do.region [1,3,4,5,7] true ?_
      simp [go_sem]
      apply k1_; clear k1_
      refine Do.seqk fun _ k2_ => ?_
      refine Do.seqk fun _ k3_ => ?_
      refine Do.region [1,3,4,5,7,28] true ?_
      simp [go_sem]
      repeat (refine And.intro (by first | omega | (intros; omega) | (intros; exact And.intro (by assumption) (by omega)) | grind) ?_)
      refine DoL.sealS true 102 101 rfl ?_
      simp [go_sem]
      refine DoL.call true 103 rfl rfl rfl rfl (by first | exact trivial | omega | (simp; done) | (simp; omega)) (hS) rfl (by first | exact .inl rfl | exact .inr rfl) rfl ?_
      simp [go_sem]
      repeat (refine And.intro (by first | omega | (intros; omega) | (intros; exact And.intro (by assumption) (by omega)) | grind) ?_)
      apply k3_; clear k3_
      refine Do.cond [1,3,4,5,7] rfl (fun h => ?_) (fun h => ?_) <;> simp [go_sem] at h ⊢
      · refine Do.seqk fun _ k4_ => ?_
        refine Do.region [10] true ?_
        simp [go_sem]
        refine DoL.call true 201 rfl rfl rfl rfl (by first | exact trivial | omega | (simp; done) | (simp; omega)) (awake20_does) rfl (by first | exact .inl rfl | exact .inr rfl) rfl ?_
        simp [go_sem]
        apply k4_; clear k4_
        refine Do.ret ?_
        simp [endQ, rets, ret1, go_sem]
        repeat (refine And.intro (by first | omega | (intros; omega) | (intros; exact And.intro (by assumption) (by omega)) | grind) ?_)
        exact TLe.refl _
      · omega
    · by_cases hout : bi < 1 ∨ 4096 < bi
      · have hob : (decide (bi < 1) || decide (4096 < bi)) = true := by simpa using hout
        have hT := @ToBits_err f p r x bi s ox (by rw [hob, argsC_out hsx]; decide)
        rw [hob, argsC_out hsx] at hT
        generalize argsE f p r false [x] = ae at *
        refine Does.of (nt := 95) Tryz.func7 rfl rfl rfl (by simp) ?_
        simp only [argTm, PV.ext, Ce.ext]
        refine Do.seqk fun _ k1_ => ?_
        refine Do.region [1,3,4,5,7] true ?_
        simp [go_sem]
        apply k1_; clear k1_
        refine Do.seqk fun _ k2_ => ?_
        refine Do.seqk fun _ k3_ => ?_
        refine Do.region [1,3,4,5,7,28] true ?_
        simp [go_sem]
        repeat (refine And.intro (by first | omega | (intros; omega) | (intros; exact And.intro (by assumption) (by omega)) | grind) ?_)
        refine DoL.sealS true 102 101 rfl ?_
        simp [go_sem]
        refine DoL.call true 103 rfl rfl rfl rfl (by first | exact trivial | omega | (simp; done) | (simp; omega)) (hS) rfl (by first | exact .inl rfl | exact .inr rfl) rfl ?_
        simp [go_sem]
        repeat (refine And.intro (by first | omega | (intros; omega) | (intros; exact And.intro (by assumption) (by omega)) | grind) ?_)
        apply k3_; clear k3_
        refine Do.cond [1,3,4,5,7] rfl (fun h => ?_) (fun h => ?_) <;> simp [go_sem] at h ⊢
        · omega
        · refine Do.skip ?_
          simp [go_sem]
          apply k2_; clear k2_
          refine Do.seqk fun _ k4_ => ?_
          refine Do.region [1,3,4,5,7,11,12,13] true ?_
          simp [go_sem]
          repeat (refine And.intro (by first | omega | (intros; omega) | (intros; exact And.intro (by assumption) (by omega)) | grind) ?_)
          refine DoL.call true 306 rfl rfl rfl rfl (by first | exact trivial | omega | (simp; done) | (simp; omega)) (hT) rfl (by first | exact .inl rfl | exact .inr rfl) rfl ?_
          simp [go_sem]
          repeat (refine And.intro (by first | omega | (intros; omega) | (intros; exact And.intro (by assumption) (by omega)) | grind) ?_)
          apply k4_; clear k4_
          refine Do.seqk fun _ k5_ => ?_
          refine Do.region [1,3,4,7,11,12,13,14] true ?_
          simp [go_sem]
          repeat (refine And.intro (by first | omega | (intros; omega) | (intros; exact And.intro (by assumption) (by omega)) | grind) ?_)
          refine DoL.sealS true 404 403 rfl ?_
          simp [go_sem]
          refine DoL.call true 405 rfl rfl rfl rfl (by first | exact trivial | omega | (simp; done) | (simp; omega)) (hA) rfl (by first | exact .inl rfl | exact .inr rfl) rfl ?_
          simp [go_sem]
          apply k5_; clear k5_
          refine Do.seqk fun _ k6_ => ?_
          refine Do.seqk fun _ k7_ => ?_
          refine Do.region [1,3,4,7,11,12,13,14,54] true ?_
          simp [go_sem]
          repeat (refine And.intro (by first | (intro h; exact ⟨h, fun g => ⟨h, g⟩⟩) | omega | (intros; omega)) ?_)
          apply k7_; clear k7_
          refine Do.cond [1,3,4,7,11,12,13,14] rfl (fun h5 => ?_) (fun h5 => ?_) <;> simp [go_sem] at h5 ⊢
          · refine Do.region [1,3,4,7,11,12,13,14] true ?_
            simp [go_sem]
            apply k6_; clear k6_
            refine Do.seqk fun _ k8_ => ?_
            refine Do.seqk fun _ k9_ => ?_
            refine Do.region [1,3,4,7,11,12,13,14,56] true ?_
            simp [go_sem]
            apply k9_; clear k9_
            refine Do.cond [1,3,4,7,11,12,13,14] rfl (fun h6 => ?_) (fun h6 => ?_) <;> simp [go_sem] at h6 ⊢
            refine Do.seqk fun _ k10_ => ?_
            refine Do.region [10] true ?_
            simp [go_sem]
            repeat (refine And.intro (by first | omega | (intros; omega) | (intros; exact And.intro (by assumption) (by omega)) | grind) ?_)
            refine DoL.callg true 806 rfl rfl rfl rfl rfl (by simp [go_sem] <;> omega) (fun _ => hNo) rfl (by first | exact .inl rfl | exact .inr rfl) rfl ?_
            simp [go_sem]
            refine DoL.callg true 813 rfl rfl rfl rfl rfl (by simp [go_sem] <;> omega) (fun _ => awake20_does) rfl (by first | exact .inl rfl | exact .inr rfl) rfl ?_
            simp [go_sem]
            apply k10_; clear k10_
            refine Do.ret ?_
            simp [endQ, rets, ret1, go_sem]
            repeat (refine And.intro (by first | omega | (intros; omega) | (intros; exact And.intro (by assumption) (by omega)) | grind) ?_)
            exact TLe.refl _
          · omega
      · have hob : (decide (bi < 1) || decide (4096 < bi)) = false := by simp; omega
        by_cases he : argsE f p r false [x] = 0
        · rw [he] at hA
          have hc : argsC f p f p r false x = 0 := by rw [argsC_same]; exact he
          obtain ⟨g1, g2, g3, g4, g5, g6, g7⟩ := argsC_zero hc
          have hra := (held_rcanon g7).1
          obtain ⟨a, ha⟩ : ∃ a, (holdsP f p x.flt).1 = a := ⟨_, rfl⟩
          have hbd := holdsP_bound g5 g7
          have hk4 := (canon_kind (held_rcanon g7).2).1
          have hfn := held_fine20 g5 g7
          have hfi := held_fin20 g7
          rw [ha] at hra hbd hfn hfi
          have hak : a.k = x.k := by rw [← hra, rcanon_k]; rfl
          have hk4 : a.k = 0 ∨ a.k = 1 ∨ a.k = 2 ∨ a.k = 3 := by rw [hak]; exact hk4
          have hok : a.k = 0 ∨ a.k = 1 → (Nu.mk a.n a.v a.e).Ok ∧ a.e.toNat + bl a.v ≤ 100000 := fun hk => by
            rcases hk with hk | hk
            · have h := hfn.2
              unfold rcanon at h
              rw [if_neg (by omega)] at h
              have e1 := congrArg Flt.e h
              have e2 := congrArg Flt.v h
              simp only [] at e1 e2
              rw [← e1, ← e2]
              exact ⟨⟨by show (-4194304 : Int) ≤ 0; decide, by show (0 : Int) + (bl 0 : Nat) ≤ 4194304; rw [bl_zero]; decide⟩, by decide⟩
            · have h := hbd hk
              have h3 := hfi hk
              obtain ⟨b1, b2, b3, b4⟩ := fmOk_spec g5
              exact ⟨⟨h.1, by show a.e + bl a.v ≤ 4194304; omega⟩, by omega⟩
          have hT := @ToBits_does f p r x bi s ox hc (by omega) (by omega) a ha hok
          have hrt := held_rt (f := f) (p := p) (l := [x]) (by simpa [allHold] using g7) (by simp [ox]) (by simp; omega) x (by simp)
          have hRT := @RToBits_does Gv r g2 g3 x hrt a hra hk4 bi s (by omega) (by omega) (fun h => (hok h).2)
          have hIs := @IIs_same Gv _ (@bits_bl r a bi.toNat s (by omega) (fun h => (hok h).2))
          generalize bitsP r a bi.toNat s = z at *
          refine Does.of (nt := 95) Tryz.func7 rfl rfl rfl (by simp) ?_
          simp only [argTm, PV.ext, Ce.ext]
          refine Do.seqk fun _ k1_ => ?_
          refine Do.region [1,3,4,5,7] true ?_
          simp [go_sem]
          apply k1_; clear k1_
          refine Do.seqk fun _ k2_ => ?_
          refine Do.seqk fun _ k3_ => ?_
          refine Do.region [1,3,4,5,7,28] true ?_
          simp [go_sem]
          repeat (refine And.intro (by first | omega | (intros; omega) | (intros; exact And.intro (by assumption) (by omega)) | grind) ?_)
          refine DoL.sealS true 102 101 rfl ?_
          simp [go_sem]
          refine DoL.call true 103 rfl rfl rfl rfl (by first | exact trivial | omega | (simp; done) | (simp; omega)) (hS) rfl (by first | exact .inl rfl | exact .inr rfl) rfl ?_
          simp [go_sem]
          repeat (refine And.intro (by first | omega | (intros; omega) | (intros; exact And.intro (by assumption) (by omega)) | grind) ?_)
          apply k3_; clear k3_
          refine Do.cond [1,3,4,5,7] rfl (fun h => ?_) (fun h => ?_) <;> simp [go_sem] at h ⊢
          · omega
          · refine Do.skip ?_
            simp [go_sem]
            apply k2_; clear k2_
            refine Do.seqk fun _ k4_ => ?_
            refine Do.region [1,3,4,5,7,11,12,13] true ?_
            simp [go_sem]
            repeat (refine And.intro (by first | omega | (intros; omega) | (intros; exact And.intro (by assumption) (by omega)) | grind) ?_)
            refine DoL.call true 306 rfl rfl rfl rfl (by first | exact trivial | omega | (simp; done) | (simp; omega)) (hT) rfl (by first | exact .inl rfl | exact .inr rfl) rfl ?_
            simp [go_sem]
            repeat (refine And.intro (by first | omega | (intros; omega) | (intros; exact And.intro (by assumption) (by omega)) | grind) ?_)
            apply k4_; clear k4_
            refine Do.seqk fun _ k5_ => ?_
            refine Do.region [1,3,4,7,11,12,13,14] true ?_
            simp [go_sem]
            repeat (refine And.intro (by first | omega | (intros; omega) | (intros; exact And.intro (by assumption) (by omega)) | grind) ?_)
            refine DoL.sealS true 404 403 rfl ?_
            simp [go_sem]
            refine DoL.call true 405 rfl rfl rfl rfl (by first | exact trivial | omega | (simp; done) | (simp; omega)) (hA) rfl (by first | exact .inl rfl | exact .inr rfl) rfl ?_
            simp [go_sem]
            apply k5_; clear k5_
            refine Do.seqk fun _ k6_ => ?_
            refine Do.seqk fun _ k7_ => ?_
            refine Do.region [1,3,4,7,11,12,13,14,54] true ?_
            simp [go_sem]
            repeat (refine And.intro (by first | (intro h; exact ⟨h, fun g => ⟨h, g⟩⟩) | omega | (intros; omega)) ?_)
            apply k7_; clear k7_
            refine Do.cond [1,3,4,7,11,12,13,14] rfl (fun h5 => ?_) (fun h5 => ?_) <;> simp [go_sem] at h5 ⊢
            · omega
            · refine Do.skip ?_
              simp [go_sem]
              apply k6_; clear k6_
              refine Do.seqk fun _ k8_ => ?_
              refine Do.seqk fun _ k9_ => ?_
              refine Do.region [1,3,4,7,11,12,13,14,56] true ?_
              simp [go_sem]
              apply k9_; clear k9_
              refine Do.cond [1,3,4,7,11,12,13,14] rfl (fun h6 => ?_) (fun h6 => ?_) <;> simp [go_sem] at h6 ⊢
              refine Do.skip ?_
              simp [go_sem]
              apply k8_; clear k8_
              refine Do.seqk fun _ k10_ => ?_
              refine Do.region [11,12,13,15,16] true ?_
              simp [go_sem]
              repeat (refine And.intro (by first | omega | (intros; omega) | (intros; exact And.intro (by assumption) (by omega)) | grind) ?_)
              refine DoL.call true 903 rfl rfl rfl rfl (by first | exact trivial | omega | (simp; done) | (simp; omega)) (Their_does) rfl (by first | exact .inl rfl | exact .inr rfl) rfl ?_
              simp [go_sem]
              refine DoL.call true 906 rfl rfl rfl rfl (by first | exact trivial | omega | (simp; done) | (simp; omega)) (hRT) rfl (by first | exact .inl rfl | exact .inr rfl) rfl ?_
              simp [go_sem]
              repeat (refine And.intro (by first | omega | (intros; omega) | (intros; exact And.intro (by assumption) (by omega)) | grind) ?_)
              apply k10_; clear k10_
              refine Do.seqk fun _ k11_ => ?_
              refine Do.region [10] true ?_
              simp [go_sem]
              repeat (refine And.intro (by first | omega | (intros; omega) | (intros; exact And.intro (by assumption) (by omega)) | grind) ?_)
              refine DoL.callg true 1006 rfl rfl rfl rfl rfl (by simp [go_sem] <;> omega) (fun _ => hIs) rfl (by first | exact .inl rfl | exact .inr rfl) rfl ?_
              simp [go_sem]
              refine DoL.callg true 1014 rfl rfl rfl rfl rfl (by simp [go_sem] <;> omega) (fun _ => awake20_does) rfl (by first | exact .inl rfl | exact .inr rfl) rfl ?_
              simp [go_sem]
              apply k11_; clear k11_
              refine Do.ret ?_
              simp [endQ, rets, ret1, go_sem]
              repeat (refine And.intro (by first | omega | (intros; omega) | (intros; exact And.intro (by assumption) (by omega)) | grind) ?_)
              exact TLe.refl _
        · have hT := @ToBits_err f p r x bi s ox (by rw [hob, argsC_same]; exact he)
          rw [hob, argsC_same] at hT
          generalize argsE f p r false [x] = ae at *
          refine Does.of (nt := 95) Tryz.func7 rfl rfl rfl (by simp) ?_
          simp only [argTm, PV.ext, Ce.ext]
          refine Do.seqk fun _ k1_ => ?_
          refine Do.region [1,3,4,5,7] true ?_
          simp [go_sem]
          apply k1_; clear k1_
          refine Do.seqk fun _ k2_ => ?_
          refine Do.seqk fun _ k3_ => ?_
          refine Do.region [1,3,4,5,7,28] true ?_
          simp [go_sem]
          repeat (refine And.intro (by first | omega | (intros; omega) | (intros; exact And.intro (by assumption) (by omega)) | grind) ?_)
          refine DoL.sealS true 102 101 rfl ?_
          simp [go_sem]
          refine DoL.call true 103 rfl rfl rfl rfl (by first | exact trivial | omega | (simp; done) | (simp; omega)) (hS) rfl (by first | exact .inl rfl | exact .inr rfl) rfl ?_
          simp [go_sem]
          repeat (refine And.intro (by first | omega | (intros; omega) | (intros; exact And.intro (by assumption) (by omega)) | grind) ?_)
          apply k3_; clear k3_
          refine Do.cond [1,3,4,5,7] rfl (fun h => ?_) (fun h => ?_) <;> simp [go_sem] at h ⊢
          · omega
          · refine Do.skip ?_
            simp [go_sem]
            apply k2_; clear k2_
            refine Do.seqk fun _ k4_ => ?_
            refine Do.region [1,3,4,5,7,11,12,13] true ?_
            simp [go_sem]
            repeat (refine And.intro (by first | omega | (intros; omega) | (intros; exact And.intro (by assumption) (by omega)) | grind) ?_)
            refine DoL.call true 306 rfl rfl rfl rfl (by first | exact trivial | omega | (simp; done) | (simp; omega)) (hT) rfl (by first | exact .inl rfl | exact .inr rfl) rfl ?_
            simp [go_sem]
            repeat (refine And.intro (by first | omega | (intros; omega) | (intros; exact And.intro (by assumption) (by omega)) | grind) ?_)
            apply k4_; clear k4_
            refine Do.seqk fun _ k5_ => ?_
            refine Do.region [1,3,4,7,11,12,13,14] true ?_
            simp [go_sem]
            repeat (refine And.intro (by first | omega | (intros; omega) | (intros; exact And.intro (by assumption) (by omega)) | grind) ?_)
            refine DoL.sealS true 404 403 rfl ?_
            simp [go_sem]
            refine DoL.call true 405 rfl rfl rfl rfl (by first | exact trivial | omega | (simp; done) | (simp; omega)) (hA) rfl (by first | exact .inl rfl | exact .inr rfl) rfl ?_
            simp [go_sem]
            apply k5_; clear k5_
            refine Do.seqk fun _ k6_ => ?_
            refine Do.seqk fun _ k7_ => ?_
            refine Do.region [1,3,4,7,11,12,13,14,54] true ?_
            simp [go_sem]
            repeat (refine And.intro (by first | (intro h; exact ⟨h, fun g => ⟨h, g⟩⟩) | omega | (intros; omega)) ?_)
            apply k7_; clear k7_
            refine Do.cond [1,3,4,7,11,12,13,14] rfl (fun h5 => ?_) (fun h5 => ?_) <;> simp [go_sem] at h5 ⊢
            · omega
            · refine Do.skip ?_
              simp [go_sem]
              apply k6_; clear k6_
              refine Do.seqk fun _ k8_ => ?_
              refine Do.seqk fun _ k9_ => ?_
              refine Do.region [1,3,4,7,11,12,13,14,56] true ?_
              simp [go_sem]
              apply k9_; clear k9_
              refine Do.cond [1,3,4,7,11,12,13,14] rfl (fun h6 => ?_) (fun h6 => ?_) <;> simp [go_sem] at h6 ⊢
              · refine Do.seqk fun _ k10_ => ?_
                refine Do.region [10] true ?_
                simp [go_sem]
                repeat (refine And.intro (by first | omega | (intros; omega) | (intros; exact And.intro (by assumption) (by omega)) | grind) ?_)
                refine DoL.callg true 806 rfl rfl rfl rfl rfl (by simp [go_sem] <;> omega) (fun _ => hNo) rfl (by first | exact .inl rfl | exact .inr rfl) rfl ?_
                simp [go_sem]
                refine DoL.callg true 813 rfl rfl rfl rfl rfl (by simp [go_sem] <;> omega) (fun _ => awake20_does) rfl (by first | exact .inl rfl | exact .inr rfl) rfl ?_
                simp [go_sem]
                apply k10_; clear k10_
                refine Do.ret ?_
                simp [endQ, rets, ret1, go_sem]
                repeat (refine And.intro (by first | omega | (intros; omega) | (intros; exact And.intro (by assumption) (by omega)) | grind) ?_)
                exact TLe.refl _
              · exact absurd h6 he
end Go.Proofs.YtokgalpflooegaaGreatDoor
