/- The law ConvertTwice. No condition. -/
import Derived.Test.YtokgalpflooegaaDoorMm
import Derived.Test.YtokgalpflooegaaDoorMh
/- The law ConvertTwice. No condition. -/
namespace Go.Proofs.YtokgalpflooegaaDoor
set_option linter.unusedVariables false
set_option linter.unusedSimpArgs false
set_option maxHeartbeats 8000000
set_option maxRecDepth 10000
theorem ConvertTwice_does {f p g q r : Int} {n : Bool} {m d : List Nat} (wm : Ws m) (wd : Ws d) : Does Tryd.prog Gv 5 [Fm f p, Fm g q, .c (.i .i64 r), Qr n m d] (.v (.c (.b true))) := by
  have hS := @BriefQ n m d
  cases hs : (decide (m.length ≤ 40) && decide (d.length ≤ 40)) with
  | false =>
    rw [hs] at hS
    refine Does.of (nt := 111) Tryd.func5 rfl rfl rfl (by simp) ?_
    simp only [argTm, PV.ext, Ce.ext]
    refine Do.seqk fun _ k1_ => ?_
    refine Do.region [2,4,5,7] true ?_
    simp [go_sem]
    apply k1_; clear k1_
    refine Do.seqk fun _ k2_ => ?_
    refine Do.draw [2,4,5,7,9,10] true (by kernel_rfl) ?_
    simp [go_sem]
    repeat (refine And.intro (by first | omega | (intros; omega) | kernel_rfl | grind) ?_)
    refine DoLD.call true 102 rfl rfl rfl rfl (by first | exact trivial | omega | (simp; done) | (simp; omega)) (Fmt_does) rfl (by first | exact .inl rfl | exact .inr rfl) rfl ?_
    simp [go_sem]
    repeat (refine And.intro (by first | omega | (intros; omega) | kernel_rfl | grind) ?_)
    refine DoLD.call true 104 rfl rfl rfl rfl (by first | exact trivial | omega | (simp; done) | (simp; omega)) (Fmt_does) rfl (by first | exact .inl rfl | exact .inr rfl) rfl ?_
    simp [go_sem]
    repeat (refine And.intro (by first | omega | (intros; omega) | kernel_rfl | grind) ?_)
    try (refine And.intro (by kernel_rfl) ?_)
    apply k2_; clear k2_
    refine Do.seqk fun _ k3_ => ?_
    refine Do.seqk fun _ k4_ => ?_
    refine Do.draw [2,4,5,7,67] true (by kernel_rfl) ?_
    simp [go_sem]
    repeat (refine And.intro (by first | omega | (intros; omega) | kernel_rfl | grind) ?_)
    refine DoLD.call true 203 rfl rfl rfl rfl (by first | exact trivial | omega | (simp; done) | (simp; omega)) (hS) rfl (by first | exact .inl rfl | exact .inr rfl) rfl ?_
    simp [go_sem]
    repeat (refine And.intro (by first | omega | (intros; omega) | kernel_rfl | grind) ?_)
    refine DoLD.gOff true 208 rfl rfl (.v (Qs n m d)) rfl rfl ?_
    simp [go_sem]
    refine DoLD.gOff true 209 rfl rfl (.int .i64 0) rfl rfl ?_
    simp [go_sem]
    repeat (refine And.intro (by first | omega | (intros; omega) | kernel_rfl | grind) ?_)
    refine DoLD.gOff true 214 rfl rfl (.v (.c (.b false))) rfl rfl ?_
    simp [go_sem]
    repeat (refine And.intro (by first | omega | (intros; omega) | kernel_rfl | grind) ?_)
    refine DoLD.gOff true 219 rfl rfl (.v (.c (.b false))) rfl rfl ?_
    simp [go_sem]
    repeat (refine And.intro (by first | omega | (intros; omega) | kernel_rfl | grind) ?_)
    refine DoLD.gOff true 232 rfl rfl (.int .i64 0) rfl rfl ?_
    simp [go_sem]
    repeat (refine And.intro (by first | omega | (intros; omega) | kernel_rfl | grind) ?_)
    refine DoLD.gOff true 234 rfl rfl (.int .i64 0) rfl rfl ?_
    simp [go_sem]
    repeat (refine And.intro (by first | omega | (intros; omega) | kernel_rfl | grind) ?_)
    refine DoLD.gOff true 240 rfl rfl (.int .i64 0) rfl rfl ?_
    simp [go_sem]
    repeat (refine And.intro (by first | omega | (intros; omega) | kernel_rfl | grind) ?_)
    refine DoLD.gOff true 242 rfl rfl (.int .i64 0) rfl rfl ?_
    simp [go_sem]
    try (refine And.intro (by kernel_rfl) ?_)
    apply k4_; clear k4_
    refine Do.cond [2,4,5,7] rfl (fun h => ?_) (fun h => ?_) <;> simp [go_sem] at h ⊢
    refine Do.seqk fun _ k5_ => ?_
    refine Do.region [8] true ?_
    simp [go_sem]
    refine DoL.call true 301 rfl rfl rfl rfl (by first | exact trivial | omega | (simp; done) | (simp; omega)) (awake20_does) rfl (by first | exact .inl rfl | exact .inr rfl) rfl ?_
    simp [go_sem]
    apply k5_; clear k5_
    refine Do.ret ?_
    simp [endQ, rets, ret1, go_sem]
    repeat (refine And.intro (by first | omega | (intros; omega) | grind) ?_)
    exact TLe.refl _
  | true =>
    rw [hs] at hS
    have hl : m.length ≤ 40 ∧ d.length ≤ 40 := by simpa using hs
    obtain ⟨l1, l2⟩ := hl
    have bd := bl_le_len wd (Nat.le_refl (val d))
    have hA := @RArgsQ r n m d (by unfold Sh; omega) wm (by unfold Sh; omega) wd (by omega)
    by_cases hc : checkQ r m d = 0
    · rw [hc] at hA
      have hRf := @RRightF_does Gv f p
      have hRg := @RRightF_does Gv g q
      cases hf : fmOk f p with
      | false =>
        rw [hf] at hRf
        refine Does.of (nt := 111) Tryd.func5 rfl rfl rfl (by simp) ?_
        simp only [argTm, PV.ext, Ce.ext]
        refine Do.seqk fun _ k1_ => ?_
        refine Do.region [2,4,5,7] true ?_
        simp [go_sem]
        apply k1_; clear k1_
        refine Do.seqk fun _ k2_ => ?_
        refine Do.draw [2,4,5,7,9,10] true (by kernel_rfl) ?_
        simp [go_sem]
        repeat (refine And.intro (by first | omega | (intros; omega) | kernel_rfl | grind) ?_)
        refine DoLD.call true 102 rfl rfl rfl rfl (by first | exact trivial | omega | (simp; done) | (simp; omega)) (Fmt_does) rfl (by first | exact .inl rfl | exact .inr rfl) rfl ?_
        simp [go_sem]
        repeat (refine And.intro (by first | omega | (intros; omega) | kernel_rfl | grind) ?_)
        refine DoLD.call true 104 rfl rfl rfl rfl (by first | exact trivial | omega | (simp; done) | (simp; omega)) (Fmt_does) rfl (by first | exact .inl rfl | exact .inr rfl) rfl ?_
        simp [go_sem]
        repeat (refine And.intro (by first | omega | (intros; omega) | kernel_rfl | grind) ?_)
        try (refine And.intro (by kernel_rfl) ?_)
        apply k2_; clear k2_
        refine Do.seqk fun _ k3_ => ?_
        refine Do.seqk fun _ k4_ => ?_
        refine Do.draw [2,4,5,7,67] true (by kernel_rfl) ?_
        simp [go_sem]
        repeat (refine And.intro (by first | omega | (intros; omega) | kernel_rfl | grind) ?_)
        refine DoLD.call true 203 rfl rfl rfl rfl (by first | exact trivial | omega | (simp; done) | (simp; omega)) (hS) rfl (by first | exact .inl rfl | exact .inr rfl) rfl ?_
        simp [go_sem]
        repeat (refine And.intro (by first | omega | (intros; omega) | kernel_rfl | grind) ?_)
        refine DoLD.gOn true 207 rfl rfl [30] (by decide) (by simp [go_sem]) rfl (show 0 < 3 ∧ 1 * 3 ≤ 16777216 by decide) (fun _ => rfl) rfl rfl ?_
        simp [go_sem]
        refine DoLD.callg true 209 rfl rfl rfl rfl rfl (by simp [go_sem] <;> omega) (fun _ => hA) rfl (by first | exact .inl rfl | exact .inr rfl) rfl ?_
        simp [go_sem]
        repeat (refine And.intro (by first | omega | (intros; omega) | kernel_rfl | grind) ?_)
        refine DoLD.callg true 214 rfl rfl rfl rfl rfl (by simp [go_sem] <;> omega) (fun _ => hRf) rfl (by first | exact .inl rfl | exact .inr rfl) rfl ?_
        simp [go_sem]
        repeat (refine And.intro (by first | omega | (intros; omega) | kernel_rfl | grind) ?_)
        refine DoLD.gOff true 219 rfl rfl (.v (.c (.b false))) rfl rfl ?_
        simp [go_sem]
        repeat (refine And.intro (by first | omega | (intros; omega) | kernel_rfl | grind) ?_)
        refine DoLD.gOff true 232 rfl rfl (.int .i64 0) rfl rfl ?_
        simp [go_sem]
        repeat (refine And.intro (by first | omega | (intros; omega) | kernel_rfl | grind) ?_)
        refine DoLD.gOff true 234 rfl rfl (.int .i64 0) rfl rfl ?_
        simp [go_sem]
        repeat (refine And.intro (by first | omega | (intros; omega) | kernel_rfl | grind) ?_)
        refine DoLD.gOff true 240 rfl rfl (.int .i64 0) rfl rfl ?_
        simp [go_sem]
        repeat (refine And.intro (by first | omega | (intros; omega) | kernel_rfl | grind) ?_)
        refine DoLD.gOff true 242 rfl rfl (.int .i64 0) rfl rfl ?_
        simp [go_sem]
        try (refine And.intro (by kernel_rfl) ?_)
        apply k4_; clear k4_
        refine Do.cond [2,4,5,7] rfl (fun h => ?_) (fun h => ?_) <;> simp [go_sem] at h ⊢
        refine Do.seqk fun _ k5_ => ?_
        refine Do.region [8] true ?_
        simp [go_sem]
        refine DoL.call true 301 rfl rfl rfl rfl (by first | exact trivial | omega | (simp; done) | (simp; omega)) (awake20_does) rfl (by first | exact .inl rfl | exact .inr rfl) rfl ?_
        simp [go_sem]
        apply k5_; clear k5_
        refine Do.ret ?_
        simp [endQ, rets, ret1, go_sem]
        repeat (refine And.intro (by first | omega | (intros; omega) | grind) ?_)
        exact TLe.refl _
      | true =>
        rw [hf] at hRf
        cases hg : fmOk g q with
        | false =>
          rw [hg] at hRg
          refine Does.of (nt := 111) Tryd.func5 rfl rfl rfl (by simp) ?_
          simp only [argTm, PV.ext, Ce.ext]
          refine Do.seqk fun _ k1_ => ?_
          refine Do.region [2,4,5,7] true ?_
          simp [go_sem]
          apply k1_; clear k1_
          refine Do.seqk fun _ k2_ => ?_
          refine Do.draw [2,4,5,7,9,10] true (by kernel_rfl) ?_
          simp [go_sem]
          repeat (refine And.intro (by first | omega | (intros; omega) | kernel_rfl | grind) ?_)
          refine DoLD.call true 102 rfl rfl rfl rfl (by first | exact trivial | omega | (simp; done) | (simp; omega)) (Fmt_does) rfl (by first | exact .inl rfl | exact .inr rfl) rfl ?_
          simp [go_sem]
          repeat (refine And.intro (by first | omega | (intros; omega) | kernel_rfl | grind) ?_)
          refine DoLD.call true 104 rfl rfl rfl rfl (by first | exact trivial | omega | (simp; done) | (simp; omega)) (Fmt_does) rfl (by first | exact .inl rfl | exact .inr rfl) rfl ?_
          simp [go_sem]
          repeat (refine And.intro (by first | omega | (intros; omega) | kernel_rfl | grind) ?_)
          try (refine And.intro (by kernel_rfl) ?_)
          apply k2_; clear k2_
          refine Do.seqk fun _ k3_ => ?_
          refine Do.seqk fun _ k4_ => ?_
          refine Do.draw [2,4,5,7,67] true (by kernel_rfl) ?_
          simp [go_sem]
          repeat (refine And.intro (by first | omega | (intros; omega) | kernel_rfl | grind) ?_)
          refine DoLD.call true 203 rfl rfl rfl rfl (by first | exact trivial | omega | (simp; done) | (simp; omega)) (hS) rfl (by first | exact .inl rfl | exact .inr rfl) rfl ?_
          simp [go_sem]
          repeat (refine And.intro (by first | omega | (intros; omega) | kernel_rfl | grind) ?_)
          refine DoLD.gOn true 207 rfl rfl [30] (by decide) (by simp [go_sem]) rfl (show 0 < 3 ∧ 1 * 3 ≤ 16777216 by decide) (fun _ => rfl) rfl rfl ?_
          simp [go_sem]
          refine DoLD.callg true 209 rfl rfl rfl rfl rfl (by simp [go_sem] <;> omega) (fun _ => hA) rfl (by first | exact .inl rfl | exact .inr rfl) rfl ?_
          simp [go_sem]
          repeat (refine And.intro (by first | omega | (intros; omega) | kernel_rfl | grind) ?_)
          refine DoLD.callg true 214 rfl rfl rfl rfl rfl (by simp [go_sem] <;> omega) (fun _ => hRf) rfl (by first | exact .inl rfl | exact .inr rfl) rfl ?_
          simp [go_sem]
          repeat (refine And.intro (by first | omega | (intros; omega) | kernel_rfl | grind) ?_)
          refine DoLD.callg true 219 rfl rfl rfl rfl rfl (by simp [go_sem] <;> omega) (fun _ => hRg) rfl (by first | exact .inl rfl | exact .inr rfl) rfl ?_
          simp [go_sem]
          repeat (refine And.intro (by first | omega | (intros; omega) | kernel_rfl | grind) ?_)
          refine DoLD.gOff true 232 rfl rfl (.int .i64 0) rfl rfl ?_
          simp [go_sem]
          repeat (refine And.intro (by first | omega | (intros; omega) | kernel_rfl | grind) ?_)
          refine DoLD.gOff true 234 rfl rfl (.int .i64 0) rfl rfl ?_
          simp [go_sem]
          repeat (refine And.intro (by first | omega | (intros; omega) | kernel_rfl | grind) ?_)
          refine DoLD.gOff true 240 rfl rfl (.int .i64 0) rfl rfl ?_
          simp [go_sem]
          repeat (refine And.intro (by first | omega | (intros; omega) | kernel_rfl | grind) ?_)
          refine DoLD.gOff true 242 rfl rfl (.int .i64 0) rfl rfl ?_
          simp [go_sem]
          try (refine And.intro (by kernel_rfl) ?_)
          apply k4_; clear k4_
          refine Do.cond [2,4,5,7] rfl (fun h => ?_) (fun h => ?_) <;> simp [go_sem] at h ⊢
          refine Do.seqk fun _ k5_ => ?_
          refine Do.region [8] true ?_
          simp [go_sem]
          refine DoL.call true 301 rfl rfl rfl rfl (by first | exact trivial | omega | (simp; done) | (simp; omega)) (awake20_does) rfl (by first | exact .inl rfl | exact .inr rfl) rfl ?_
          simp [go_sem]
          apply k5_; clear k5_
          refine Do.ret ?_
          simp [endQ, rets, ret1, go_sem]
          repeat (refine And.intro (by first | omega | (intros; omega) | grind) ?_)
          exact TLe.refl _
        | true =>
          rw [hg] at hRg
          obtain ⟨b1, b2, b3, b4⟩ := fmOk_spec hf
          obtain ⟨d1, d2, d3, d4⟩ := fmOk_spec hg
          obtain ⟨b5, b6⟩ := gOfE_le b1 b2
          obtain ⟨d5, d6⟩ := gOfE_le d1 d2
          have hLf := @RLeast_does Gv f p hf
          have hLg := @RLeast_does Gv g q hg
          have hGf := @RGreatest_does Gv f p hf
          have hGg := @RGreatest_does Gv g q hg
          by_cases c1 : q < p + 2
          · skip
            refine Does.of (nt := 111) Tryd.func5 rfl rfl rfl (by simp) ?_
            simp only [argTm, PV.ext, Ce.ext]
            refine Do.seqk fun _ k1_ => ?_
            refine Do.region [2,4,5,7] true ?_
            simp [go_sem, c1]
            apply k1_; clear k1_
            refine Do.seqk fun _ k2_ => ?_
            refine Do.draw [2,4,5,7,9,10] true (by kernel_rfl) ?_
            simp [go_sem, c1]
            repeat (refine And.intro (by first | omega | (intros; omega) | kernel_rfl | grind) ?_)
            refine DoLD.call true 102 rfl rfl rfl rfl (by first | exact trivial | omega | (simp; done) | (simp; omega)) (Fmt_does) rfl (by first | exact .inl rfl | exact .inr rfl) rfl ?_
            simp [go_sem, c1]
            repeat (refine And.intro (by first | omega | (intros; omega) | kernel_rfl | grind) ?_)
            refine DoLD.call true 104 rfl rfl rfl rfl (by first | exact trivial | omega | (simp; done) | (simp; omega)) (Fmt_does) rfl (by first | exact .inl rfl | exact .inr rfl) rfl ?_
            simp [go_sem, c1]
            repeat (refine And.intro (by first | omega | (intros; omega) | kernel_rfl | grind) ?_)
            try (refine And.intro (by kernel_rfl) ?_)
            apply k2_; clear k2_
            refine Do.seqk fun _ k3_ => ?_
            refine Do.seqk fun _ k4_ => ?_
            refine Do.draw [2,4,5,7,67] true (by kernel_rfl) ?_
            simp [go_sem, c1]
            repeat (refine And.intro (by first | omega | (intros; omega) | kernel_rfl | grind) ?_)
            refine DoLD.call true 203 rfl rfl rfl rfl (by first | exact trivial | omega | (simp; done) | (simp; omega)) (hS) rfl (by first | exact .inl rfl | exact .inr rfl) rfl ?_
            simp [go_sem, c1]
            repeat (refine And.intro (by first | omega | (intros; omega) | kernel_rfl | grind) ?_)
            refine DoLD.gOn true 207 rfl rfl [30] (by decide) (by simp [go_sem]) rfl (show 0 < 3 ∧ 1 * 3 ≤ 16777216 by decide) (fun _ => rfl) rfl rfl ?_
            simp [go_sem]
            refine DoLD.callg true 209 rfl rfl rfl rfl rfl (by simp [go_sem] <;> omega) (fun _ => hA) rfl (by first | exact .inl rfl | exact .inr rfl) rfl ?_
            simp [go_sem, c1]
            repeat (refine And.intro (by first | omega | (intros; omega) | kernel_rfl | grind) ?_)
            refine DoLD.callg true 214 rfl rfl rfl rfl rfl (by simp [go_sem] <;> omega) (fun _ => hRf) rfl (by first | exact .inl rfl | exact .inr rfl) rfl ?_
            simp [go_sem, c1]
            repeat (refine And.intro (by first | omega | (intros; omega) | kernel_rfl | grind) ?_)
            refine DoLD.callg true 219 rfl rfl rfl rfl rfl (by simp [go_sem] <;> omega) (fun _ => hRg) rfl (by first | exact .inl rfl | exact .inr rfl) rfl ?_
            simp [go_sem, c1]
            repeat (refine And.intro (by first | omega | (intros; omega) | kernel_rfl | grind) ?_)
            refine DoLD.gOff true 232 rfl rfl (.int .i64 0) rfl rfl ?_
            simp [go_sem, c1]
            repeat (refine And.intro (by first | omega | (intros; omega) | kernel_rfl | grind) ?_)
            refine DoLD.gOff true 234 rfl rfl (.int .i64 0) rfl rfl ?_
            simp [go_sem, c1]
            repeat (refine And.intro (by first | omega | (intros; omega) | kernel_rfl | grind) ?_)
            refine DoLD.gOff true 240 rfl rfl (.int .i64 0) rfl rfl ?_
            simp [go_sem, c1]
            repeat (refine And.intro (by first | omega | (intros; omega) | kernel_rfl | grind) ?_)
            refine DoLD.gOff true 242 rfl rfl (.int .i64 0) rfl rfl ?_
            simp [go_sem, c1]
            try (refine And.intro (by kernel_rfl) ?_)
            apply k4_; clear k4_
            refine Do.cond [2,4,5,7] rfl (fun h => ?_) (fun h => ?_) <;> simp [go_sem, c1] at h ⊢
            refine Do.seqk fun _ k5_ => ?_
            refine Do.region [8] true ?_
            simp [go_sem, c1]
            refine DoL.call true 301 rfl rfl rfl rfl (by first | exact trivial | omega | (simp; done) | (simp; omega)) (awake20_does) rfl (by first | exact .inl rfl | exact .inr rfl) rfl ?_
            simp [go_sem, c1]
            apply k5_; clear k5_
            refine Do.ret ?_
            simp [endQ, rets, ret1, go_sem, c1]
            repeat (refine And.intro (by first | omega | (intros; omega) | grind) ?_)
            exact TLe.refl _
          · by_cases c2 : 1 - gOfE f - 2 < 1 - gOfE g
            · generalize gOfE f = gf at *
              generalize gOfE g = gg at *
              refine Does.of (nt := 111) Tryd.func5 rfl rfl rfl (by simp) ?_
              simp only [argTm, PV.ext, Ce.ext]
              refine Do.seqk fun _ k1_ => ?_
              refine Do.region [2,4,5,7] true ?_
              simp [go_sem, c1, c2]
              apply k1_; clear k1_
              refine Do.seqk fun _ k2_ => ?_
              refine Do.draw [2,4,5,7,9,10] true (by kernel_rfl) ?_
              simp [go_sem, c1, c2]
              repeat (refine And.intro (by first | omega | (intros; omega) | kernel_rfl | grind) ?_)
              refine DoLD.call true 102 rfl rfl rfl rfl (by first | exact trivial | omega | (simp; done) | (simp; omega)) (Fmt_does) rfl (by first | exact .inl rfl | exact .inr rfl) rfl ?_
              simp [go_sem, c1, c2]
              repeat (refine And.intro (by first | omega | (intros; omega) | kernel_rfl | grind) ?_)
              refine DoLD.call true 104 rfl rfl rfl rfl (by first | exact trivial | omega | (simp; done) | (simp; omega)) (Fmt_does) rfl (by first | exact .inl rfl | exact .inr rfl) rfl ?_
              simp [go_sem, c1, c2]
              repeat (refine And.intro (by first | omega | (intros; omega) | kernel_rfl | grind) ?_)
              try (refine And.intro (by kernel_rfl) ?_)
              apply k2_; clear k2_
              refine Do.seqk fun _ k3_ => ?_
              refine Do.seqk fun _ k4_ => ?_
              refine Do.draw [2,4,5,7,67] true (by kernel_rfl) ?_
              simp [go_sem, c1, c2]
              repeat (refine And.intro (by first | omega | (intros; omega) | kernel_rfl | grind) ?_)
              refine DoLD.call true 203 rfl rfl rfl rfl (by first | exact trivial | omega | (simp; done) | (simp; omega)) (hS) rfl (by first | exact .inl rfl | exact .inr rfl) rfl ?_
              simp [go_sem, c1, c2]
              repeat (refine And.intro (by first | omega | (intros; omega) | kernel_rfl | grind) ?_)
              refine DoLD.gOn true 207 rfl rfl [30] (by decide) (by simp [go_sem]) rfl (show 0 < 3 ∧ 1 * 3 ≤ 16777216 by decide) (fun _ => rfl) rfl rfl ?_
              simp [go_sem]
              refine DoLD.callg true 209 rfl rfl rfl rfl rfl (by simp [go_sem] <;> omega) (fun _ => hA) rfl (by first | exact .inl rfl | exact .inr rfl) rfl ?_
              simp [go_sem, c1, c2]
              repeat (refine And.intro (by first | omega | (intros; omega) | kernel_rfl | grind) ?_)
              refine DoLD.callg true 214 rfl rfl rfl rfl rfl (by simp [go_sem] <;> omega) (fun _ => hRf) rfl (by first | exact .inl rfl | exact .inr rfl) rfl ?_
              simp [go_sem, c1, c2]
              repeat (refine And.intro (by first | omega | (intros; omega) | kernel_rfl | grind) ?_)
              refine DoLD.callg true 219 rfl rfl rfl rfl rfl (by simp [go_sem] <;> omega) (fun _ => hRg) rfl (by first | exact .inl rfl | exact .inr rfl) rfl ?_
              simp [go_sem, c1, c2]
              repeat (refine And.intro (by first | omega | (intros; omega) | kernel_rfl | grind) ?_)
              refine DoLD.callg true 232 rfl rfl rfl rfl rfl (by simp [go_sem] <;> omega) (fun _ => hLg) rfl (by first | exact .inl rfl | exact .inr rfl) rfl ?_
              simp [go_sem, c1, c2]
              repeat (refine And.intro (by first | omega | (intros; omega) | kernel_rfl | grind) ?_)
              refine DoLD.callg true 234 rfl rfl rfl rfl rfl (by simp [go_sem] <;> omega) (fun _ => hLf) rfl (by first | exact .inl rfl | exact .inr rfl) rfl ?_
              simp [go_sem, c1, c2]
              repeat (refine And.intro (by first | omega | (intros; omega) | kernel_rfl | grind) ?_)
              refine DoLD.gOff true 240 rfl rfl (.int .i64 0) rfl rfl ?_
              simp [go_sem, c1, c2]
              repeat (refine And.intro (by first | omega | (intros; omega) | kernel_rfl | grind) ?_)
              refine DoLD.gOff true 242 rfl rfl (.int .i64 0) rfl rfl ?_
              simp [go_sem, c1, c2]
              try (refine And.intro (by kernel_rfl) ?_)
              apply k4_; clear k4_
              refine Do.cond [2,4,5,7] rfl (fun h => ?_) (fun h => ?_) <;> simp [go_sem, c1, c2] at h ⊢
              refine Do.seqk fun _ k5_ => ?_
              refine Do.region [8] true ?_
              simp [go_sem, c1, c2]
              refine DoL.call true 301 rfl rfl rfl rfl (by first | exact trivial | omega | (simp; done) | (simp; omega)) (awake20_does) rfl (by first | exact .inl rfl | exact .inr rfl) rfl ?_
              simp [go_sem, c1, c2]
              apply k5_; clear k5_
              refine Do.ret ?_
              simp [endQ, rets, ret1, go_sem, c1, c2]
              repeat (refine And.intro (by first | omega | (intros; omega) | grind) ?_)
              exact TLe.refl _
            · by_cases c3 : gOfE g < gOfE f
              · generalize gOfE f = gf at *
                generalize gOfE g = gg at *
                refine Does.of (nt := 111) Tryd.func5 rfl rfl rfl (by simp) ?_
                simp only [argTm, PV.ext, Ce.ext]
                refine Do.seqk fun _ k1_ => ?_
                refine Do.region [2,4,5,7] true ?_
                simp [go_sem, c1, c2, c3]
                apply k1_; clear k1_
                refine Do.seqk fun _ k2_ => ?_
                refine Do.draw [2,4,5,7,9,10] true (by kernel_rfl) ?_
                simp [go_sem, c1, c2, c3]
                repeat (refine And.intro (by first | omega | (intros; omega) | kernel_rfl | grind) ?_)
                refine DoLD.call true 102 rfl rfl rfl rfl (by first | exact trivial | omega | (simp; done) | (simp; omega)) (Fmt_does) rfl (by first | exact .inl rfl | exact .inr rfl) rfl ?_
                simp [go_sem, c1, c2, c3]
                repeat (refine And.intro (by first | omega | (intros; omega) | kernel_rfl | grind) ?_)
                refine DoLD.call true 104 rfl rfl rfl rfl (by first | exact trivial | omega | (simp; done) | (simp; omega)) (Fmt_does) rfl (by first | exact .inl rfl | exact .inr rfl) rfl ?_
                simp [go_sem, c1, c2, c3]
                repeat (refine And.intro (by first | omega | (intros; omega) | kernel_rfl | grind) ?_)
                try (refine And.intro (by kernel_rfl) ?_)
                apply k2_; clear k2_
                refine Do.seqk fun _ k3_ => ?_
                refine Do.seqk fun _ k4_ => ?_
                refine Do.draw [2,4,5,7,67] true (by kernel_rfl) ?_
                simp [go_sem, c1, c2, c3]
                repeat (refine And.intro (by first | omega | (intros; omega) | kernel_rfl | grind) ?_)
                refine DoLD.call true 203 rfl rfl rfl rfl (by first | exact trivial | omega | (simp; done) | (simp; omega)) (hS) rfl (by first | exact .inl rfl | exact .inr rfl) rfl ?_
                simp [go_sem, c1, c2, c3]
                repeat (refine And.intro (by first | omega | (intros; omega) | kernel_rfl | grind) ?_)
                refine DoLD.gOn true 207 rfl rfl [30] (by decide) (by simp [go_sem]) rfl (show 0 < 3 ∧ 1 * 3 ≤ 16777216 by decide) (fun _ => rfl) rfl rfl ?_
                simp [go_sem]
                refine DoLD.callg true 209 rfl rfl rfl rfl rfl (by simp [go_sem] <;> omega) (fun _ => hA) rfl (by first | exact .inl rfl | exact .inr rfl) rfl ?_
                simp [go_sem, c1, c2, c3]
                repeat (refine And.intro (by first | omega | (intros; omega) | kernel_rfl | grind) ?_)
                refine DoLD.callg true 214 rfl rfl rfl rfl rfl (by simp [go_sem] <;> omega) (fun _ => hRf) rfl (by first | exact .inl rfl | exact .inr rfl) rfl ?_
                simp [go_sem, c1, c2, c3]
                repeat (refine And.intro (by first | omega | (intros; omega) | kernel_rfl | grind) ?_)
                refine DoLD.callg true 219 rfl rfl rfl rfl rfl (by simp [go_sem] <;> omega) (fun _ => hRg) rfl (by first | exact .inl rfl | exact .inr rfl) rfl ?_
                simp [go_sem, c1, c2, c3]
                repeat (refine And.intro (by first | omega | (intros; omega) | kernel_rfl | grind) ?_)
                refine DoLD.callg true 232 rfl rfl rfl rfl rfl (by simp [go_sem] <;> omega) (fun _ => hLg) rfl (by first | exact .inl rfl | exact .inr rfl) rfl ?_
                simp [go_sem, c1, c2, c3]
                repeat (refine And.intro (by first | omega | (intros; omega) | kernel_rfl | grind) ?_)
                refine DoLD.callg true 234 rfl rfl rfl rfl rfl (by simp [go_sem] <;> omega) (fun _ => hLf) rfl (by first | exact .inl rfl | exact .inr rfl) rfl ?_
                simp [go_sem, c1, c2, c3]
                repeat (refine And.intro (by first | omega | (intros; omega) | kernel_rfl | grind) ?_)
                refine DoLD.callg true 240 rfl rfl rfl rfl rfl (by simp [go_sem] <;> omega) (fun _ => hGg) rfl (by first | exact .inl rfl | exact .inr rfl) rfl ?_
                simp [go_sem, c1, c2, c3]
                repeat (refine And.intro (by first | omega | (intros; omega) | kernel_rfl | grind) ?_)
                refine DoLD.callg true 242 rfl rfl rfl rfl rfl (by simp [go_sem] <;> omega) (fun _ => hGf) rfl (by first | exact .inl rfl | exact .inr rfl) rfl ?_
                simp [go_sem, c1, c2, c3]
                try (refine And.intro (by kernel_rfl) ?_)
                apply k4_; clear k4_
                refine Do.cond [2,4,5,7] rfl (fun h => ?_) (fun h => ?_) <;> simp [go_sem, c1, c2, c3] at h ⊢
                refine Do.seqk fun _ k5_ => ?_
                refine Do.region [8] true ?_
                simp [go_sem, c1, c2, c3]
                refine DoL.call true 301 rfl rfl rfl rfl (by first | exact trivial | omega | (simp; done) | (simp; omega)) (awake20_does) rfl (by first | exact .inl rfl | exact .inr rfl) rfl ?_
                simp [go_sem, c1, c2, c3]
                apply k5_; clear k5_
                refine Do.ret ?_
                simp [endQ, rets, ret1, go_sem, c1, c2, c3]
                repeat (refine And.intro (by first | omega | (intros; omega) | grind) ?_)
                exact TLe.refl _
              · obtain ⟨x, fl, y, fl2, fl3, t1, t2, t3, t4, t5⟩ := @twice_all f p g q r hf hg (by omega) (by omega) (by omega) n m d hc (20000 + bl (val d)) (by omega)
                have hO := @Odd_does g q n m d (by unfold Sh; omega) wm (by unfold Sh; omega) wd (20000 + bl (val d)) (by omega)
                rw [t1] at hO
                have hCv := @Convert_does g q f p r x.fla ⟨t2.sh, nat_ws _, t2.e⟩
                rw [t3] at hCv
                have hRd := @RoundD_does f p r n m d (by unfold Sh; omega) wm (by unfold Sh; omega) wd (20000 + bl (val d)) (by omega)
                rw [t4] at hRd
                have hSm := @Same_does y.k y.n y.e (nat y.v) y.k y.n y.e (nat y.v) t5.sh (nat_ws _) t5.e t5.sh (nat_ws _) t5.e
                rw [val_nat] at hSm
                have e1 : sameP ⟨y.k, y.n, y.e, y.v⟩ ⟨y.k, y.n, y.e, y.v⟩ = true := same_self t5
                rw [e1] at hSm
                have hO : Does Tryd.prog Gv 24 [Fm g q, Qr n m d] (.t [Fl x.k x.n x.e (nat x.v), .c (.i .i64 fl), .c (.i .i64 0)]) := hO
                have hCv : Does Tryd.prog Gv 16 [Fm g q, Fm f p, .c (.i .i64 r), Fl x.k x.n x.e (nat x.v)] (.t [Fl y.k y.n y.e (nat y.v), .c (.i .i64 fl2), .c (.i .i64 0)]) := hCv
                have hRd : Does Tryd.prog Gv 25 [Fm f p, .c (.i .i64 r), Qr n m d] (.t [Fl y.k y.n y.e (nat y.v), .c (.i .i64 fl3), .c (.i .i64 0)]) := hRd
                generalize gOfE f = gf at *
                generalize gOfE g = gg at *
                refine Does.of (nt := 111) Tryd.func5 rfl rfl rfl (by simp) ?_
                simp only [argTm, PV.ext, Ce.ext]
                refine Do.seqk fun _ k1_ => ?_
                refine Do.region [2,4,5,7] true ?_
                simp [go_sem, c1, c2, c3]
                apply k1_; clear k1_
                refine Do.seqk fun _ k2_ => ?_
                refine Do.draw [2,4,5,7,9,10] true (by kernel_rfl) ?_
                simp [go_sem, c1, c2, c3]
                repeat (refine And.intro (by first | omega | (intros; omega) | kernel_rfl | grind) ?_)
                refine DoLD.call true 102 rfl rfl rfl rfl (by first | exact trivial | omega | (simp; done) | (simp; omega)) (Fmt_does) rfl (by first | exact .inl rfl | exact .inr rfl) rfl ?_
                simp [go_sem, c1, c2, c3]
                repeat (refine And.intro (by first | omega | (intros; omega) | kernel_rfl | grind) ?_)
                refine DoLD.call true 104 rfl rfl rfl rfl (by first | exact trivial | omega | (simp; done) | (simp; omega)) (Fmt_does) rfl (by first | exact .inl rfl | exact .inr rfl) rfl ?_
                simp [go_sem, c1, c2, c3]
                repeat (refine And.intro (by first | omega | (intros; omega) | kernel_rfl | grind) ?_)
                try (refine And.intro (by kernel_rfl) ?_)
                apply k2_; clear k2_
                refine Do.seqk fun _ k3_ => ?_
                refine Do.seqk fun _ k4_ => ?_
                refine Do.draw [2,4,5,7,67] true (by kernel_rfl) ?_
                simp [go_sem, c1, c2, c3]
                repeat (refine And.intro (by first | omega | (intros; omega) | kernel_rfl | grind) ?_)
                refine DoLD.call true 203 rfl rfl rfl rfl (by first | exact trivial | omega | (simp; done) | (simp; omega)) (hS) rfl (by first | exact .inl rfl | exact .inr rfl) rfl ?_
                simp [go_sem, c1, c2, c3]
                repeat (refine And.intro (by first | omega | (intros; omega) | kernel_rfl | grind) ?_)
                refine DoLD.gOn true 207 rfl rfl [30] (by decide) (by simp [go_sem]) rfl (show 0 < 3 ∧ 1 * 3 ≤ 16777216 by decide) (fun _ => rfl) rfl rfl ?_
                simp [go_sem]
                refine DoLD.callg true 209 rfl rfl rfl rfl rfl (by simp [go_sem] <;> omega) (fun _ => hA) rfl (by first | exact .inl rfl | exact .inr rfl) rfl ?_
                simp [go_sem, c1, c2, c3]
                repeat (refine And.intro (by first | omega | (intros; omega) | kernel_rfl | grind) ?_)
                refine DoLD.callg true 214 rfl rfl rfl rfl rfl (by simp [go_sem] <;> omega) (fun _ => hRf) rfl (by first | exact .inl rfl | exact .inr rfl) rfl ?_
                simp [go_sem, c1, c2, c3]
                repeat (refine And.intro (by first | omega | (intros; omega) | kernel_rfl | grind) ?_)
                refine DoLD.callg true 219 rfl rfl rfl rfl rfl (by simp [go_sem] <;> omega) (fun _ => hRg) rfl (by first | exact .inl rfl | exact .inr rfl) rfl ?_
                simp [go_sem, c1, c2, c3]
                repeat (refine And.intro (by first | omega | (intros; omega) | kernel_rfl | grind) ?_)
                refine DoLD.callg true 232 rfl rfl rfl rfl rfl (by simp [go_sem] <;> omega) (fun _ => hLg) rfl (by first | exact .inl rfl | exact .inr rfl) rfl ?_
                simp [go_sem, c1, c2, c3]
                repeat (refine And.intro (by first | omega | (intros; omega) | kernel_rfl | grind) ?_)
                refine DoLD.callg true 234 rfl rfl rfl rfl rfl (by simp [go_sem] <;> omega) (fun _ => hLf) rfl (by first | exact .inl rfl | exact .inr rfl) rfl ?_
                simp [go_sem, c1, c2, c3]
                repeat (refine And.intro (by first | omega | (intros; omega) | kernel_rfl | grind) ?_)
                refine DoLD.callg true 240 rfl rfl rfl rfl rfl (by simp [go_sem] <;> omega) (fun _ => hGg) rfl (by first | exact .inl rfl | exact .inr rfl) rfl ?_
                simp [go_sem, c1, c2, c3]
                repeat (refine And.intro (by first | omega | (intros; omega) | kernel_rfl | grind) ?_)
                refine DoLD.callg true 242 rfl rfl rfl rfl rfl (by simp [go_sem] <;> omega) (fun _ => hGf) rfl (by first | exact .inl rfl | exact .inr rfl) rfl ?_
                simp [go_sem, c1, c2, c3]
                try (refine And.intro (by kernel_rfl) ?_)
                apply k4_; clear k4_
                refine Do.cond [2,4,5,7] rfl (fun h => ?_) (fun h => ?_) <;> simp [go_sem, c1, c2, c3] at h ⊢
                refine Do.skip ?_
                simp [go_sem]
                apply k3_; clear k3_
                refine Do.seqk fun _ k5_ => ?_
                refine Do.region [2,4,5,7,11,13] true ?_
                simp [go_sem, c1, c2, c3]
                repeat (refine And.intro (by first | omega | (intros; omega) | grind) ?_)
                refine DoL.call true 403 rfl rfl rfl rfl (by first | exact trivial | omega | (simp; done) | (simp; omega)) (hO) rfl (by first | exact .inl rfl | exact .inr rfl) rfl ?_
                simp [go_sem, c1, c2, c3]
                repeat (refine And.intro (by first | omega | (intros; omega) | grind) ?_)
                apply k5_; clear k5_
                refine Do.seqk fun _ k6_ => ?_
                refine Do.region [2,4,7,13,14,16] true ?_
                simp [go_sem, c1, c2, c3]
                repeat (refine And.intro (by first | omega | (intros; omega) | grind) ?_)
                refine DoL.call true 505 rfl rfl rfl rfl (by first | exact trivial | omega | (simp; done) | (simp; omega)) (hCv) rfl (by first | exact .inl rfl | exact .inr rfl) rfl ?_
                simp [go_sem, c1, c2, c3]
                repeat (refine And.intro (by first | omega | (intros; omega) | grind) ?_)
                apply k6_; clear k6_
                refine Do.seqk fun _ k7_ => ?_
                refine Do.region [13,14,16,17,19] true ?_
                simp [go_sem, c1, c2, c3]
                repeat (refine And.intro (by first | omega | (intros; omega) | grind) ?_)
                refine DoL.call true 604 rfl rfl rfl rfl (by first | exact trivial | omega | (simp; done) | (simp; omega)) (hRd) rfl (by first | exact .inl rfl | exact .inr rfl) rfl ?_
                simp [go_sem, c1, c2, c3]
                repeat (refine And.intro (by first | omega | (intros; omega) | grind) ?_)
                apply k7_; clear k7_
                refine Do.seqk fun _ k8_ => ?_
                refine Do.region [8] true ?_
                simp [go_sem, c1, c2, c3]
                repeat (refine And.intro (by first | omega | (intros; omega) | grind) ?_)
                refine DoL.callg true 714 rfl rfl rfl rfl rfl (by simp [go_sem] <;> omega) (fun _ => hSm) rfl (by first | exact .inl rfl | exact .inr rfl) rfl ?_
                simp [go_sem, c1, c2, c3]
                refine DoL.callg true 717 rfl rfl rfl rfl rfl (by simp [go_sem] <;> omega) (fun _ => awake20_does) rfl (by first | exact .inl rfl | exact .inr rfl) rfl ?_
                simp [go_sem, c1, c2, c3]
                apply k8_; clear k8_
                refine Do.ret ?_
                simp [endQ, rets, ret1, go_sem, c1, c2, c3]
                repeat (refine And.intro (by first | omega | (intros; omega) | grind) ?_)
                exact TLe.refl _
    · have hcz : (checkQ r m d != 0) = true := by simpa using hc
      generalize checkQ r m d = z at *
      refine Does.of (nt := 111) Tryd.func5 rfl rfl rfl (by simp) ?_
      simp only [argTm, PV.ext, Ce.ext]
      refine Do.seqk fun _ k1_ => ?_
      refine Do.region [2,4,5,7] true ?_
      simp [go_sem, hcz, hc]
      apply k1_; clear k1_
      refine Do.seqk fun _ k2_ => ?_
      refine Do.draw [2,4,5,7,9,10] true (by kernel_rfl) ?_
      simp [go_sem, hcz, hc]
      repeat (refine And.intro (by first | omega | (intros; omega) | kernel_rfl | grind) ?_)
      refine DoLD.call true 102 rfl rfl rfl rfl (by first | exact trivial | omega | (simp; done) | (simp; omega)) (Fmt_does) rfl (by first | exact .inl rfl | exact .inr rfl) rfl ?_
      simp [go_sem, hcz, hc]
      repeat (refine And.intro (by first | omega | (intros; omega) | kernel_rfl | grind) ?_)
      refine DoLD.call true 104 rfl rfl rfl rfl (by first | exact trivial | omega | (simp; done) | (simp; omega)) (Fmt_does) rfl (by first | exact .inl rfl | exact .inr rfl) rfl ?_
      simp [go_sem, hcz, hc]
      repeat (refine And.intro (by first | omega | (intros; omega) | kernel_rfl | grind) ?_)
      try (refine And.intro (by kernel_rfl) ?_)
      apply k2_; clear k2_
      refine Do.seqk fun _ k3_ => ?_
      refine Do.seqk fun _ k4_ => ?_
      refine Do.draw [2,4,5,7,67] true (by kernel_rfl) ?_
      simp [go_sem, hcz, hc]
      repeat (refine And.intro (by first | omega | (intros; omega) | kernel_rfl | grind) ?_)
      refine DoLD.call true 203 rfl rfl rfl rfl (by first | exact trivial | omega | (simp; done) | (simp; omega)) (hS) rfl (by first | exact .inl rfl | exact .inr rfl) rfl ?_
      simp [go_sem, hcz, hc]
      repeat (refine And.intro (by first | omega | (intros; omega) | kernel_rfl | grind) ?_)
      refine DoLD.gOn true 207 rfl rfl [30] (by decide) (by simp [go_sem]) rfl (show 0 < 3 ∧ 1 * 3 ≤ 16777216 by decide) (fun _ => rfl) rfl rfl ?_
      simp [go_sem]
      refine DoLD.callg true 209 rfl rfl rfl rfl rfl (by simp [go_sem] <;> omega) (fun _ => hA) rfl (by first | exact .inl rfl | exact .inr rfl) rfl ?_
      simp [go_sem, hcz, hc]
      repeat (refine And.intro (by first | omega | (intros; omega) | kernel_rfl | grind) ?_)
      refine DoLD.gOff true 214 rfl rfl (.v (.c (.b false))) rfl rfl ?_
      simp [go_sem, hcz, hc]
      repeat (refine And.intro (by first | omega | (intros; omega) | kernel_rfl | grind) ?_)
      refine DoLD.gOff true 219 rfl rfl (.v (.c (.b false))) rfl rfl ?_
      simp [go_sem, hcz, hc]
      repeat (refine And.intro (by first | omega | (intros; omega) | kernel_rfl | grind) ?_)
      refine DoLD.gOff true 232 rfl rfl (.int .i64 0) rfl rfl ?_
      simp [go_sem, hcz, hc]
      repeat (refine And.intro (by first | omega | (intros; omega) | kernel_rfl | grind) ?_)
      refine DoLD.gOff true 234 rfl rfl (.int .i64 0) rfl rfl ?_
      simp [go_sem, hcz, hc]
      repeat (refine And.intro (by first | omega | (intros; omega) | kernel_rfl | grind) ?_)
      refine DoLD.gOff true 240 rfl rfl (.int .i64 0) rfl rfl ?_
      simp [go_sem, hcz, hc]
      repeat (refine And.intro (by first | omega | (intros; omega) | kernel_rfl | grind) ?_)
      refine DoLD.gOff true 242 rfl rfl (.int .i64 0) rfl rfl ?_
      simp [go_sem, hcz, hc]
      try (refine And.intro (by kernel_rfl) ?_)
      apply k4_; clear k4_
      refine Do.cond [2,4,5,7] rfl (fun h => ?_) (fun h => ?_) <;> simp [go_sem, hcz, hc] at h ⊢
      refine Do.seqk fun _ k5_ => ?_
      refine Do.region [8] true ?_
      simp [go_sem, hcz, hc]
      refine DoL.call true 301 rfl rfl rfl rfl (by first | exact trivial | omega | (simp; done) | (simp; omega)) (awake20_does) rfl (by first | exact .inl rfl | exact .inr rfl) rfl ?_
      simp [go_sem, hcz, hc]
      apply k5_; clear k5_
      refine Do.ret ?_
      simp [endQ, rets, ret1, go_sem, hcz, hc]
      repeat (refine And.intro (by first | omega | (intros; omega) | grind) ?_)
      exact TLe.refl _
end Go.Proofs.YtokgalpflooegaaDoor
