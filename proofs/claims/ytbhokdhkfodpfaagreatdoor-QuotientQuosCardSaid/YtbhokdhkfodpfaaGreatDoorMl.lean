/- So many times one number taken from another: the walk. No condition. The first words of a row of the call's own, as a row. No condition. Numbers whose words are the caller's own: trimmed, and moved to the left. No condition. Division of numbers of any length. No condition. Division by the schoolbook: a guess is at most 1 too great; plain. No condition. Division of numbers of any length: the walk. No condition. Rounding of quotients, plain: how far a quotient is written does not matter. No condition. Rounding to odd, plain. No condition. Quotients rounded, and rounded to odd, by the program. No condition. -/
import Derived.Test.YtbhokdhkfodpfaaGreatDoorMk
import Derived.Test.YtbhokdhkfodpfaaGreatDoorMi
import Derived.Test.YtbhokdhkfodpfaaGreatDoorMj
import Derived.Test.YtbhokdhkfodpfaaGreatDoorMe
/- So many times one number taken from another: the walk. No condition. -/
namespace Go.Proofs.YtbhokdhkfodpfaaGreatDoor
set_option linter.unusedVariables false
set_option linter.unusedSimpArgs false
variable {G : Gl}
set_option maxHeartbeats 8000000
set_option maxRecDepth 10000
theorem less_does {A V q L j n X d : Nat} (hL : L ≤ 1073741824) (hV : V < 18446744073709551616 ^ n) (hq : q < 18446744073709551616) (hX : hghW A (j + (n + 1)) = 0) (hjL : j + (n + 1) ≤ L) (hXe : hghW A j = X) (hS : SubW X (q * V) d n) :
    DoesX Tryz.prog G 140 j (n + 1) (wds A L) [Wd (wds V n), .c (.n q)] (decide (X < q * V)) (wds (if X < q * V then cpyW A ((d + V) % 18446744073709551616 ^ (n + 1)) j (n + 1) else cpyW A d j (n + 1)) L) := by
  have hlv := wds_len n V
  have hll := wds_len L
  refine DoesX.of (nt := 99) Tryz.func140 rfl rfl rfl (by simp) fun b => ?_
  simp only [argTm, PV.ext, Ce.ext]
  refine DoX.seqLk fun _ k1_ => ?_
  refine Do.region [0,1,2] true ?_
  simp [go_sem]
  apply k1_; clear k1_
  refine DoX.seqLk fun _ k2_ => ?_
  refine Do.region [0,1,2,7,8] true ?_
  simp [go_sem]
  apply k2_; clear k2_
  refine DoX.seqk fun _ k3_ => ?_
  refine DoX.seqLk fun _ k4_ => ?_
  refine Do.region [0,1,2,7,8,17,18,19] true ?_
  simp [go_sem]
  repeat (refine And.intro (by first | omega | grind) ?_)
  apply k4_; clear k4_
  refine DoX.block ?_
  refine DoX.loop (fun i : Nat => ⟨[(0, .v (.c (.x (winS b j (n + 1))))), (1, .v (.c (.w false (wds V n)))), (2, .v (.c (.n q))), (7, .v (.c (.n (cqW q V i)))), (8, .v (.c (.n (cyW d (q * V) i)))), (17, .v (.c (.w false (wds V n)))), (18, .int .i64 n), (19, .int .i64 i)], []⟩) (fun i => wds (cpyW A d j i) L) (fun i => i ≤ n) (fun i => n - i) 0 (St.le_of (by simp [keep, cqW_zero, cyW_zero, hlv]) rfl) (by rw [cpyW_zero]) (Nat.zero_le _) ?_
  intro i hi
  refine DoX.seqLk fun _ k5_ => ?_
  refine Do.region [0,1,2,7,8,17,18,19,20] true ?_
  simp [go_sem]
  apply k5_; clear k5_
  refine DoX.seqk fun _ k6_ => ?_
  refine DoX.cond [0,1,2,7,8,17,18,19] rfl (fun h => ?_) (fun h => ?_) <;> simp [go_sem] at h ⊢
  · refine DoX.skip ?_
    simp [go_sem]
    apply k6_; clear k6_
    have hw := @wds_dgw n V i h
    obtain ⟨q1, q2⟩ := cqW_step q V i
    obtain ⟨s1, s2⟩ := hS.step (show i ≤ n by omega)
    have hc1 := @cqW_lt q V i hq
    have hc2 := @cqW_lt q V (i + 1) hq
    have hM := @Mul64_does G q (dgw V i) hq (dgw_lt _ _)
    obtain ⟨lo, hlo⟩ : ∃ lo, q * dgw V i % 18446744073709551616 = lo := ⟨_, rfl⟩
    obtain ⟨hi_, hhi⟩ : ∃ hi_, q * dgw V i / 18446744073709551616 = hi_ := ⟨_, rfl⟩
    have hA := @Add64_does G lo (cqW q V i) 0 (by decide)
    obtain ⟨cc, hcc⟩ : ∃ cc, (lo + cqW q V i + 0) / 18446744073709551616 = cc := ⟨_, rfl⟩
    have e1 : (lo + cqW q V i + 0) % 18446744073709551616 = dgw (q * V) i := by rw [← q1]; omega
    have e2 : hi_ + cc = cqW q V (i + 1) := by rw [← q2]; omega
    rw [hlo, hhi] at hM
    rw [e1, hcc] at hA
    have hcy : cyW d (q * V) i ≤ 1 := (plus_stepW d (q * V) i).2.2
    have hSu := @Sub64_does G (dgw X i) (dgw (q * V) i) (cyW d (q * V) i) hcy
    rw [s1, s2] at hSu
    have hget : (wds (cpyW A d j i) L)[j + i]? = some (dgw X i) := by
      rw [wds_dgw (by omega), cpyW_dig, ← hgh_digW, hXe]
    have hset := @cpyW_step A d j i L (by omega)
    clear q1 q2 s1 s2 hlo hhi hcc e1
    refine DoX.seqk fun _ k7_ => ?_
    refine DoX.block ?_
    refine DoX.seqLk fun _ k8_ => ?_
    refine Do.region [0,1,2,7,8,9,10,17,18,19] true ?_
    simp [go_sem, hw]
    refine And.intro h ?_
    apply k8_; clear k8_
    refine DoX.seqLk fun _ k8_ => ?_
    refine Do.region [0,1,2,7,8,9,11,12,17,18,19] true ?_
    simp [go_sem]
    refine DoL.call true 503 rfl rfl rfl rfl trivial hM rfl (by first | exact .inl rfl | exact .inr rfl) rfl ?_
    simp [go_sem]
    apply k8_; clear k8_
    refine DoX.seqLk fun _ k8_ => ?_
    refine Do.region [0,1,2,7,8,9,11,12,13,17,18,19] true ?_
    simp [go_sem]
    apply k8_; clear k8_
    refine DoX.seqLk fun _ k8_ => ?_
    refine Do.region [0,1,2,7,8,9,11,12,13,17,18,19] true ?_
    simp [go_sem]
    refine DoL.call true 703 rfl rfl rfl rfl trivial hA rfl (by first | exact .inl rfl | exact .inr rfl) rfl ?_
    simp [go_sem]
    apply k8_; clear k8_
    refine DoX.seqLk fun _ k8_ => ?_
    refine Do.region [0,1,2,7,8,9,12,17,18,19] true ?_
    simp [go_sem, e2]
    refine And.intro (by unfold M64; omega) ?_
    apply k8_; clear k8_
    refine DoX.region [0,1,2,7,8,17,18,19] true ?_
    simp [go_sem]
    refine DoLX.ix true 904 rfl rfl rfl (by decide) rfl rfl rfl rfl rfl ⟨by omega, by omega⟩ ?_
    simp [go_sem]
    refine DoLX.ld true 905 rfl rfl rfl (by decide) rfl rfl rfl hget ?_
    simp [go_sem]
    refine DoLX.call true 908 rfl rfl rfl rfl trivial hSu rfl (by first | exact .inl rfl | exact .inr rfl) rfl ?_
    simp [go_sem]
    refine DoLX.ix true 912 rfl rfl rfl (by decide) rfl rfl rfl rfl rfl ⟨by omega, by omega⟩ ?_
    simp [go_sem]
    refine DoLX.sto true 913 rfl rfl rfl rfl rfl rfl rfl (by simp [hll]; omega) ?_
    simp [go_sem, hset]
    apply k7_; clear k7_
    refine DoX.region [0,1,2,7,8,17,18,19] true ?_
    simp [go_sem]
    repeat (refine And.intro (by first | omega | grind) ?_)
    exact ⟨i + 1, St.le_of (by simp [keep]) rfl, rfl, by omega, by omega⟩
  · refine DoX.exit ?_
    simp [go_sem]
    obtain rfl : i = n := by omega
    apply k3_; clear k3_
    obtain ⟨s1, s2⟩ := hS.step (Nat.le_refl i)
    have s3 := hS.fin
    rw [← s2] at s3
    have hcy : cyW d (q * V) i ≤ 1 := (plus_stepW d (q * V) i).2.2
    have hce := cqW_end hq hV
    have hSu := @Sub64_does G (dgw X i) (cqW q V i) (cyW d (q * V) i) hcy
    rw [hce, s1, s3] at hSu
    rw [hce]
    have hget : (wds (cpyW A d j i) L)[j + i]? = some (dgw X i) := by
      rw [wds_dgw (by omega), cpyW_dig, ← hgh_digW, hXe]
    have hset := @cpyW_step A d j i L (by omega)
    clear s1 s2 s3
    refine DoX.seqk fun _ k7_ => ?_
    refine DoX.region [0,1,2,8] true ?_
    simp [go_sem, hlv]
    repeat (refine And.intro (by first | omega | grind) ?_)
    refine DoLX.ix true 1106 rfl rfl rfl (by decide) rfl rfl rfl rfl rfl ⟨by omega, by omega⟩ ?_
    simp [go_sem]
    refine DoLX.ld true 1107 rfl rfl rfl (by decide) rfl rfl rfl hget ?_
    simp [go_sem]
    refine DoLX.call true 1110 rfl rfl rfl rfl trivial hSu rfl (by first | exact .inl rfl | exact .inr rfl) rfl ?_
    simp [go_sem]
    refine DoLX.ix true 1114 rfl rfl rfl (by decide) rfl rfl rfl rfl rfl ⟨by omega, by omega⟩ ?_
    simp [go_sem]
    refine DoLX.sto true 1115 rfl rfl rfl rfl rfl rfl rfl (by simp [hll]; omega) ?_
    simp [go_sem, hset]
    apply k7_; clear k7_
    refine DoX.seqk fun _ k9_ => ?_
    refine DoX.seqLk fun _ k8_ => ?_
    refine Do.region [0,1,2,69] true ?_
    simp [go_sem]
    apply k8_; clear k8_
    by_cases hlt : X < q * V
    · rw [if_pos hlt, decide_eq_true hlt] at *
      refine DoX.cond [0,1,2] rfl (fun h => ?_) (fun h => ?_) <;> simp [go_sem] at h ⊢
      refine DoX.skip ?_
      simp [go_sem]
      apply k9_; clear k9_
      refine DoX.seqLk fun _ k8_ => ?_
      refine Do.region [0,1,2,14] true ?_
      simp [go_sem]
      apply k8_; clear k8_
      refine DoX.seqk fun _ k3_ => ?_
      refine DoX.seqLk fun _ k4_ => ?_
      refine Do.region [0,1,2,14,70,71,72] true ?_
      simp [go_sem]
      repeat (refine And.intro (by first | omega | grind) ?_)
      apply k4_; clear k4_
      refine DoX.block ?_
      obtain ⟨A1, hA1⟩ : ∃ A1, cpyW A d j (i + 1) = A1 := ⟨_, rfl⟩
      obtain ⟨E, hE⟩ : ∃ E, (d + V) % 18446744073709551616 ^ (i + 1) = E := ⟨_, rfl⟩
      obtain ⟨t1, t2⟩ := @cpyW_twice A d E j (i + 1) hS.d hX
      rw [hA1] at t1 t2
      rw [hA1, hE]
      refine DoX.loop (fun k : Nat => ⟨[(0, .v (.c (.x (winS b j (i + 1))))), (1, .v (.c (.w false (wds V i)))), (14, .v (.c (.n (cyW d V k)))), (70, .v (.c (.w false (wds V i)))), (71, .int .i64 i), (72, .int .i64 k)], []⟩) (fun k => wds (cpyW A1 E j k) L) (fun k => k ≤ i) (fun k => i - k) 0 (St.le_of (by simp [keep, cyW_zero, hlv]) rfl) (by rw [cpyW_zero]) (Nat.zero_le _) ?_
      intro k hk
      obtain ⟨u1, u2, u3⟩ := plus_stepW d V k
      have hgd : dgw A1 (j + k) = dgw d k := by rw [← hA1]; exact cpyW_get (by omega)
      have hget1 : (wds (cpyW A1 E j k) L)[j + k]? = some (dgw d k) := by
        rw [wds_dgw (by omega), cpyW_dig, hgd]
      have hEk : dgw (d + V) k = dgw E k := by rw [← hE]; exact (dgw_low (by omega)).symm
      rw [hEk] at u1
      have hset1 := @cpyW_step A1 E j k L (by omega)
      refine DoX.seqLk fun _ k5_ => ?_
      refine Do.region [0,1,14,70,71,72,73] true ?_
      simp [go_sem]
      apply k5_; clear k5_
      refine DoX.seqk fun _ k6_ => ?_
      refine DoX.cond [0,1,14,70,71,72] rfl (fun h => ?_) (fun h => ?_) <;> simp [go_sem] at h ⊢
      · refine DoX.skip ?_
        simp [go_sem]
        apply k6_; clear k6_
        have hw := @wds_dgw i V k h
        have hA := @Add64_does G (dgw d k) (dgw V k) (cyW d V k) u3
        rw [show dgw d k + dgw V k + cyW d V k = cyW d V k + dgw d k + dgw V k by omega, u1, u2] at hA
        refine DoX.seqk fun _ k7_ => ?_
        refine DoX.block ?_
        refine DoX.seqLk fun _ k8_ => ?_
        refine Do.region [0,1,14,15,16,70,71,72] true ?_
        simp [go_sem, hw]
        refine And.intro h ?_
        apply k8_; clear k8_
        refine DoX.region [0,1,14,70,71,72] true ?_
        simp [go_sem]
        refine DoLX.ix true 1804 rfl rfl rfl (by decide) rfl rfl rfl rfl rfl ⟨by omega, by omega⟩ ?_
        simp [go_sem]
        refine DoLX.ld true 1805 rfl rfl rfl (by decide) rfl rfl rfl hget1 ?_
        simp [go_sem]
        refine DoLX.call true 1808 rfl rfl rfl rfl trivial hA rfl (by first | exact .inl rfl | exact .inr rfl) rfl ?_
        simp [go_sem]
        refine DoLX.ix true 1812 rfl rfl rfl (by decide) rfl rfl rfl rfl rfl ⟨by omega, by omega⟩ ?_
        simp [go_sem]
        refine DoLX.sto true 1813 rfl rfl rfl rfl rfl rfl rfl (by simp [hll]; omega) ?_
        simp [go_sem, hset1]
        apply k7_; clear k7_
        refine DoX.region [0,1,14,70,71,72] true ?_
        simp [go_sem]
        repeat (refine And.intro (by first | omega | grind) ?_)
        exact ⟨k + 1, St.le_of (by simp [keep]) rfl, rfl, by omega, by omega⟩
      · refine DoX.exit ?_
        simp [go_sem]
        obtain rfl : k = i := by omega
        apply k3_; clear k3_
        have hV0 : dgw V k = 0 := by
          unfold dgw
          rw [Nat.div_eq_of_lt hV]
        rw [hV0, Nat.add_zero] at u1
        refine DoX.seqk fun _ k7_ => ?_
        refine DoX.region [] false ?_
        simp [go_sem, hlv]
        repeat (refine And.intro (by first | omega | grind) ?_)
        refine DoLX.ix false 2003 rfl rfl rfl (by decide) rfl rfl rfl rfl rfl ⟨by omega, by omega⟩ ?_
        simp [go_sem]
        refine DoLX.ld false 2004 rfl rfl rfl (by decide) rfl rfl rfl hget1 ?_
        have u4 : (dgw d k + cyW d V k) % M64 = dgw E k := by rw [← u1, Nat.add_comm]
        simp [go_sem, u4]
        refine DoLX.ix false 2007 rfl rfl rfl (by decide) rfl rfl rfl rfl rfl ⟨by omega, by omega⟩ ?_
        simp [go_sem]
        refine DoLX.sto false 2008 rfl rfl rfl rfl rfl rfl rfl (by simp [hll]; omega) ?_
        simp [go_sem, hset1]
        apply k7_; clear k7_
        refine DoX.seqLk fun _ k8_ => ?_
        refine Do.region [6] true ?_
        simp [go_sem]
        apply k8_; clear k8_
        refine DoX.ret ?_
        simp [go_sem, endX, hlt, t2, hE]
    · rw [if_neg hlt, decide_eq_false hlt] at *
      refine DoX.cond [] rfl (fun h => ?_) (fun h => ?_) <;> simp [go_sem] at h ⊢
      refine DoX.seqLk fun _ k8_ => ?_
      refine Do.region [6] true ?_
      simp [go_sem]
      apply k8_; clear k8_
      refine DoX.ret ?_
      simp [go_sem, endX, hlt]
end Go.Proofs.YtbhokdhkfodpfaaGreatDoor
/- The first words of a row of the call's own, as a row. No condition. -/
namespace Go.Proofs.YtbhokdhkfodpfaaGreatDoor
set_option linter.unusedVariables false
set_option linter.unusedSimpArgs false
section
variable {P : Program} {G : Gl} {nt : Nat} {st : St} {cx : Cx} {a : Act} {W W' : World} {m : Nat → Option Nat} {ops l : List Oper} {Q : St → Prop}
/-- A shorter row under another label. -/
theorem RelM.cutW (h : RelM G cx m st a W) {la lb t n k : Nat} {w : List Nat} (ht : lk t st.tm = some (.v (.c (.r la n)))) (ha : lk la st.ob = some (.wr w)) (hf : st.free lb = true) (h1 : ((del t st.tm).all fun x => !x.2.labs.contains la) = true) (h2 : (st.ob.all fun x => !x.2.labs.contains la) = true) (hp : la ≠ 7777777) :
    RelM G cx (upd m lb (m la)) ⟨del t st.tm, put lb (.wr (w.take k)) (del la st.ob)⟩ a W := by
  obtain ⟨f1, f2, f3⟩ := St.free_spec hf
  have hlb : lk lb st.ob = none := f2
  have hne : la ≠ lb := fun e => by rw [e, hlb] at ha; cases ha
  have hd : ∀ j o, lk j (put lb (.wr (w.take k)) (del la st.ob)) = some o → (j = lb ∧ o = .wr (w.take k)) ∨ (j ≠ lb ∧ j ≠ la ∧ lk j st.ob = some o) := fun j o hk => by
    rw [lk_put] at hk
    split at hk
    · rename_i e; injection hk with hk; exact .inl ⟨e, hk.symm⟩
    · rename_i e
      rw [lk_del] at hk
      split at hk
      · cases hk
      · rename_i e2; exact .inr ⟨e, e2, hk⟩
  have he : EnLe (fun j => j ≠ la ∧ j ≠ lb) (en cx m st.ob W) (en cx (upd m lb (m la)) (put lb (.wr (w.take k)) (del la st.ob)) W) := by
    refine ⟨fun b ⟨g1, g2, g3⟩ => ⟨g1, g2, fun j o hj => ?_⟩, fun _ _ => rfl, Nat.le_refl _, fun j hj o' ho' => ?_⟩
    · rcases hd j o hj with ⟨rfl, rfl⟩ | ⟨k1, k2, k3⟩
      · rw [upd_self]; exact g3 la _ ha
      · rw [upd_ne _ _ k1]; exact g3 j o k3
    · rcases hd j o' ho' with ⟨e, _⟩ | ⟨k1, k2, k3⟩
      · exact absurd e hj.2
      · exact ⟨o', k3, rfl, rfl, Nat.le_refl _, fun _ => ⟨upd_ne _ _ k1, fun _ _ => rfl⟩⟩
  have hlab : ∀ j o, lk j st.ob = some o → ∀ k ∈ o.labs, k ≠ la ∧ k ≠ lb := fun j o hj k hk => by
    refine ⟨fun e => ?_, fun e => f3 j o hj (e ▸ hk)⟩
    have := lk_all h2 hj
    subst e
    simp at this; exact this hk
  have hro := h.ob la _ ha
  refine { h with tm := fun s x hx => ?_, ob := fun j o hj => ?_, inj := fun j j' o o' b g1 g2 g3 g4 => ?_, own := fun j o b g1 g2 => ?_, pin := fun o ho => ?_ }
  · rw [lk_del] at hx
    split at hx
    · cases hx
    · rename_i e
      obtain ⟨v, hv, hr⟩ := h.tm s x hx
      refine ⟨v, hv, RT.mono he (fun j hj => ⟨fun e2 => ?_, fun e2 => f1 s x hx (e2 ▸ hj)⟩) hr⟩
      have hx2 : lk s (del t st.tm) = some x := by rw [lk_del, if_neg e]; exact hx
      have := lk_all h1 hx2
      subst e2
      simp at this; exact this hj
  · rcases hd j o hj with ⟨rfl, rfl⟩ | ⟨k1, k2, k3⟩
    · rcases hro with ⟨q1, q2⟩ | ⟨b, vs, e, q1, q2, q3⟩
      · exact .inl ⟨by rw [q1]; simp, by show upd m j (m la) j = none; rw [upd_self]; exact q2⟩
      · refine .inr ⟨b, vs, e, by show upd m j (m la) j = some b; rw [upd_self]; exact q1, q2, fun i x hi => q3 i x ?_⟩
        rw [List.getElem?_take] at hi
        split at hi
        · exact hi
        · cases hi
    · exact RO.mono he (hlab j o k3) (upd_ne _ _ k1) (fun _ _ => rfl) (h.ob j o k3)
  · rcases hd j o g1 with ⟨rfl, rfl⟩ | ⟨k1, k2, k3⟩ <;> rcases hd j' o' g2 with ⟨rfl, rfl⟩ | ⟨u1, u2, u3⟩
    · rfl
    · rw [upd_self] at g3; rw [upd_ne _ _ u1] at g4
      exact absurd (h.inj la j' _ _ b ha u3 g3 g4) (Ne.symm u2)
    · rw [upd_self] at g4; rw [upd_ne _ _ k1] at g3
      exact absurd (h.inj j la _ _ b k3 ha g3 g4) k2
    · rw [upd_ne _ _ k1] at g3; rw [upd_ne _ _ u1] at g4
      exact h.inj j j' o o' b k3 u3 g3 g4
  · rcases hd j o g1 with ⟨rfl, rfl⟩ | ⟨k1, k2, k3⟩
    · rw [upd_self] at g2
      have := h.own la _ b ha g2
      exact ⟨this.1, this.2.elim .inl fun e => absurd e.2.2 hp⟩
    · rw [upd_ne _ _ k1] at g2; exact h.own j o b k3 g2
  · rcases hd _ o ho with ⟨e, _⟩ | ⟨k1, k2, k3⟩
    · exact absurd e.symm (St.free_pin hf)
    · obtain ⟨g1, b, g2, g3, g4⟩ := h.pin o k3
      exact ⟨g1, b, by rw [upd_ne _ _ k1]; exact g2, g3, g4⟩
/-- A slot that nobody asks for any more. -/
theorem DoL.dropT {md : Bool} {lab : Nat} (t : Nat) (next : runs P G nt md ops Q lab l ⟨del t st.tm, st.ob⟩) : DoL P G nt ops l st Q := by
  intro cx a W hn ⟨m, hr⟩
  refine DoL.run next cx a W hn ⟨m, { hr with tm := fun s x hx => ?_ }⟩
  have hx : lk s (del t st.tm) = some x := hx
  rw [lk_del] at hx
  split at hx
  · cases hx
  · exact hr.tm s x hx
/-- The first words of a row of words, taken for the row; the row itself is not asked for again. -/
theorem DoL.cutW {o : Oper} {ty e : TypeId} {b1 z1 : Nat} {c1 : List Ce} {te : TI} {hi : Operand} {t d n la : Nat} {h0 : Int} {w : List Nat} (md : Bool) (lab lb : Nat)
    (hg : o.guard = none) (hop : o.op = .slice ty (.tmp t) none (some hi) none) (hd : o.dst = some d) (hdn : d < nt)
    (hty : tiOf P ty = some ⟨b1, z1, c1, .slice e⟩) (he : tiOf P e = some te) (hsz : te.size = 1)
    (ht : lk t st.tm = some (.v (.c (.r la n)))) (ha : lk la st.ob = some (.wr w)) (hhi : opv st.tm hi = some (.v (.c (.i .i64 h0)))) (hp : w.length = n ∧ 0 < h0 ∧ h0 ≤ w.length)
    (hf : st.free lb = true) (h1 : ((del t st.tm).all fun x => !x.2.labs.contains la) = true) (h2 : (st.ob.all fun x => !x.2.labs.contains la) = true) (hpin : la ≠ 7777777)
    (next : runs P G nt md ops Q lab l ⟨put d (.v (.c (.r lb h0.toNat))) (del t st.tm), put lb (.wr (w.take h0.toNat)) (del la st.ob)⟩) : DoL P G nt ops (o :: l) st Q := by
  intro cx a W hn ⟨m, hr⟩ Q' hQ
  subst hn
  obtain ⟨p1, p2, p3⟩ := hp
  have hx : opv st.tm (.tmp t) = some (.v (.c (.r la n))) := ht
  obtain ⟨_, hxr⟩ : _ ∧ ((n = 0 ∧ a.eval (.tmp t) = .slice none 0 0 ∧ m la = none) ∨ ∃ b cap e, m la = some b ∧ a.eval (.tmp t) = .slice (some ⟨b, 0, none⟩) n cap ∧ n ≤ cap ∧ W.shape? b = some (e, cap * (Ob.wr w).sz)) := (hr.opv hx).2 _ ha (by simp [Ob.len, p1])
  rcases hxr with ⟨z1, _, _⟩ | ⟨b, cap, e', hb, hxv, hcap, hsh⟩
  · omega
  have vhi : a.eval hi = .int .i64 h0 := hr.opv hhi
  have hB : Bnd n cap 0 h0 none (some (a.eval hi)) none cap := ⟨.inl ⟨rfl, rfl⟩, by omega, by omega, by omega, hcap, .inl ⟨rfl, rfl, .inr (by rw [vhi])⟩⟩
  obtain ⟨e2, _⟩ := run_slice (P := P) (W := W) (ad := some ⟨b, 0, none⟩) (tiOf_slice hty) he hB
  have hc0 : ¬ cap = Int.toNat 0 := by simp; omega
  rw [if_neg hc0] at e2
  simp only [Option.map_some, Int.toNat_zero, Nat.zero_mul, Nat.sub_zero, addr_add0] at e2
  refine wpList_plain hg fun K hK => ?_
  unfold Oper.wp
  have x1 : (execOp a.eval o).run P W = .ok (.value (.slice (some ⟨b, 0, none⟩) h0.toNat cap)) W := by
    have : execOp a.eval o = (do pure (.value (← Instr.sliceAt ty (a.eval (.tmp t)) none (some (a.eval hi)) none))) := by
      unfold execOp; simp [hop]
    rw [this, hxv]; simp [e2]
  rw [x1]
  refine hK _ _ ?_
  rw [hd]
  have hc := hr.cutW (k := h0.toNat) (lb := lb) ht ha hf h1 h2 hpin
  have hlb : lk lb st.ob = none := (St.free_spec hf).2.1
  have hs := hc.slot (d := d) hdn (x := .v (.c (.r lb h0.toNat))) (v := .slice (some ⟨b, 0, none⟩) h0.toNat cap) ⟨rfl, fun o' ho' hle => by
    have ho2 : lk lb (put lb (.wr (w.take h0.toNat)) (del la st.ob)) = some o' := ho'
    rw [lk_put_self] at ho2; injection ho2 with ho2; subst ho2
    refine ⟨by simp [Ob.len]; omega, .inr ⟨b, cap, e', ?_, rfl, by omega, hsh⟩⟩
    show upd m lb (m la) lb = some b
    rw [upd_self]; exact hb⟩
  exact DoL.run next cx _ _ rfl ⟨_, hs⟩ Q' hQ
end
end Go.Proofs.YtbhokdhkfodpfaaGreatDoor
/- Numbers whose words are the caller's own: trimmed, and moved to the left. No condition. -/
namespace Go.Proofs.YtbhokdhkfodpfaaGreatDoor
set_option linter.unusedVariables false
set_option linter.unusedSimpArgs false
section
variable {P : Program} {G : Gl} {nt : Nat} {st : St} {ops l : List Oper} {Q : St → Prop}
/-- A call whose one result is a row of words of this function's own from here on; rows of this function's own may be given to it. -/
theorem DoL.callV {o : Oper} {f : FuncId} {x : Operand} {az : Array Operand} {ts : Array TypeId} {p : Prop} {args : List PV} {pur : Bool} {w : List Nat} (md : Bool) (lab lo : Nat) (hg : o.guard = none) (hop : o.op = .call { callee := .value x, args := az, argTypes := ts })
    (hx : opv st.tm x = some (.v (.c (.f f)))) (ha : argsOf st az.toList = some (p, args, pur)) (hp : p) (hD : DoesW P G f args w) (hf : st.free lo = true) (hd : dstOk nt o.dst = true)
    (next : runs P G nt md ops Q lab l ⟨setv o.dst (some (.v (.c (.r lo w.length)))) st.tm, put lo (.wr w) st.ob⟩) : DoL P G nt ops (o :: l) st Q := by
  intro cx a W hn ⟨m, hr⟩ Q' hQ
  refine wpList_plain hg fun K hK => ?_
  unfold Oper.wp
  have hxv : a.eval x = .func (.func f) #[] #[] := hr.opv hx
  have hargs := argsOf_run hr ha hp pur id
  have hok : ∀ b, okC cx m st W pur b → b < W.heap.size := by
    rintro b (h | ⟨_, j, o, h1, h2⟩)
    · exact h.2.1
    · exact (hr.own j o b h1 h2).1
  have hexec : execOp a.eval o = callFunc f (az.toList.map a.eval).toArray := by
    have e1 : (az.toList.map a.eval).toArray = az.map a.eval := by apply Array.ext'; simp
    unfold execOp
    simp [hop, resolve, hxv, Deferred.ofValue, invoke, e1]
  obtain ⟨h1, h2⟩ := hD W (okC cx m st W pur) _ hok hr.glOk hargs
  rw [hexec, h1]
  refine h2.mono ?_
  rintro e W' ⟨sv, bo, rfl, hb, hbo, q1, q2⟩
  have hro : RO (en cx (upd m lo bo) (put lo (.wr w) st.ob) W') lo (.wr w) := by
    rcases q2 with ⟨y1, y2⟩ | ⟨b', vs, e2, r1, r2, r3⟩
    · exact .inl ⟨y1, by show upd m lo bo lo = none; rw [upd_self]; exact y2⟩
    · exact .inr ⟨b', vs, e2, by show upd m lo bo lo = _; rw [upd_self]; exact r1, r2, r3⟩
  have hr2 := hr.adopt hb hf hbo hro
  have hsv : RC (en cx (upd m lo bo) (put lo (.wr w) st.ob) W') (.r lo w.length) sv := by
    refine ⟨q1.1, fun o' ho' hle => ?_⟩
    have ho2 : lk lo (put lo (.wr w) st.ob) = some o' := ho'
    rw [lk_put_self] at ho2; injection ho2 with ho2; subst ho2
    obtain ⟨k1, k2⟩ := q1.2 (.wr w) rfl (Nat.le_refl _)
    refine ⟨rfl, ?_⟩
    show (_ ∧ _ ∧ upd m lo bo lo = none) ∨ ∃ b cap e, upd m lo bo lo = some b ∧ _
    rw [upd_self]
    exact k2
  have hput := Rel.put (st := ⟨st.tm, put lo (.wr w) st.ob⟩) hr2 hn hd (x := .v (.c (.r lo w.length))) (v := sv) hsv
  exact hK _ _ (DoL.run next cx _ _ hn hput Q' hQ)
end
variable {G : Gl}
set_option maxHeartbeats 4000000
set_option maxRecDepth 10000
theorem Trim_own {x : List Nat} (hx : Sh x) (hw : Ws x) (h0 : val x ≠ 0) : DoesW Tryz.prog G 131 [Wd x] (nat (val x)) := by
  have hl := norm_length x
  have h1 := @view_does G x hx
  have hz := @norm_nil x
  rw [← norm_nat hw]
  generalize norm x = y at *
  have hy : 0 < y.length := by
    cases y with
    | nil => exact absurd (hz.1 rfl) h0
    | cons a l => simp
  refine DoesW.of (nt := 12) Tryz.func131 rfl rfl rfl (by simp) ?_
  simp only [argTm, PV.ext, Ce.ext]
  refine Do.seqk fun _ k1_ => ?_
  refine Do.region [0] true ?_
  simp [go_sem]
  apply k1_; clear k1_
  refine Do.seqk fun _ k2_ => ?_
  refine Do.seqk fun _ k3_ => ?_
  refine Do.region [3] true ?_
  simp [go_sem]
  refine DoL.call true 102 rfl rfl rfl rfl (by first | exact trivial | omega | (simp; done) | (simp; omega)) (h1) rfl (by first | exact .inl rfl | exact .inr rfl) rfl ?_
  simp [go_sem]
  apply k3_; clear k3_
  refine Do.seqk fun _ k4_ => ?_
  refine Do.region [3,8] true ?_
  simp [go_sem]
  repeat (refine And.intro (by first | omega | (intros; omega) | grind) ?_)
  apply k4_; clear k4_
  refine Do.cond [3] rfl (fun g1 => ?_) (fun g1 => ?_) <;> simp [go_sem] at g1 ⊢
  · refine Do.seqk fun _ k5_ => ?_
    refine Do.region [2] true ?_
    simp [go_sem]
    repeat (refine And.intro (by first | omega | (intros; omega) | grind) ?_)
    apply k5_; clear k5_
    refine Do.ret ?_
    simp [endRow, rets, ret1, go_sem]
    repeat (refine And.intro (by first | omega | (intros; omega) | grind) ?_)
    skip
  · exact absurd (by simpa using g1) (show ¬ y = [] by rintro rfl; simp at hy)
theorem Shl_own {x : List Nat} (hx : Sh x) (wx : Ws x) (h0 : val x ≠ 0) {s : Nat} (hs : x.length + s < 1099511627775) : DoesW Tryz.prog G 101 [Wd x, .c (.i .i64 s)] (nat (val x * 2 ^ s)) := by
  refine DoesW.of (nt := 58) Tryz.func101 rfl rfl rfl (by simp) ?_
  simp only [argTm, PV.ext, Ce.ext]
  have hlx := norm_length x
  have nx := norm_ws wx
  repeat (refine Do.seqk fun _ _ => ?_)
  refine Do.region [0,1,4] true ?_
  simp [go_sem]
  repeat (refine And.intro (by first | omega | (intros; omega) | (intros; exact And.intro (by assumption) (by omega))) ?_)
  apply_assumption -exfalso -symm
  repeat (refine Do.seqk fun _ _ => ?_)
  refine Do.region [0,1,4] true ?_
  simp [go_sem]
  repeat (refine And.intro (by first | omega | (intros; omega) | (intros; exact And.intro (by assumption) (by omega))) ?_)
  refine DoL.call true 0 rfl rfl rfl rfl (by first | exact trivial | omega | (simp; done) | (simp; omega)) (view_does hx) rfl (by first | exact .inl rfl | exact .inr rfl) rfl ?_
  simp [go_sem]
  repeat (refine And.intro (by first | omega | (intros; omega) | (intros; exact And.intro (by assumption) (by omega))) ?_)
  apply_assumption -exfalso -symm
  rw [← val_norm x] at h0 ⊢
  generalize norm x = a at *
  repeat (refine Do.seqk fun _ _ => ?_)
  refine Do.region [0,1,4,12] true ?_
  simp [go_sem]
  repeat (refine And.intro (by first | omega | (intros; omega) | (intros; exact And.intro (by assumption) (by omega))) ?_)
  apply_assumption -exfalso -symm
  repeat (refine Do.seqk fun _ _ => ?_)
  refine Do.cond [0,1,4] rfl (fun h => ?_) (fun h => ?_) <;> simp [go_sem] at h ⊢
  · subst h
    simp [val] at h0
  · refine Do.skip ?_
    simp [go_sem]
    apply_assumption -exfalso -symm
    have e0 : ((a.length : Int) + (s : Int) / 64 + 1).toNat = a.length + s / 64 + 1 := by omega
    repeat (refine Do.seqk fun _ _ => ?_)
    refine Do.region [0,1,4,5] true ?_
    simp [go_sem]
    repeat (refine And.intro (by first | omega | (intros; omega) | (intros; exact And.intro (by assumption) (by omega))) ?_)
    apply_assumption -exfalso -symm
    repeat (refine Do.seqk fun _ _ => ?_)
    refine Do.region [0,1,4,5,20,21,22] true ?_
    simp [go_sem]
    repeat (refine And.intro (by first | omega | (intros; omega) | (intros; exact And.intro (by assumption) (by omega))) ?_)
    apply_assumption -exfalso -symm
    generalize hq : s / 64 = q at *
    have e1 : (s : Int) / 64 = q := by omega
    have e2 : ((s : Int) % 64) = ((s % 64 : Nat) : Int) := by omega
    have e3 : ((a.length : Int) + q + 1).toNat = a.length + q + 1 := by omega
    repeat (refine Do.seqk fun _ _ => ?_)
    refine Do.block ?_
    refine Do.loop (fun z : Nat × List Nat => ⟨[(0, .v (.c (.w false a))), (1, .int .i64 s), (4, .v (.c .z)), (5, .v (.c (.r 406 (a.length + q + 1)))), (20, .v (.c (.w false a))), (21, .int .i64 a.length), (22, .int .i64 z.1)], [(406, .wr z.2)]⟩)
      (fun z => z.1 ≤ a.length ∧ z.2.length = a.length + q + 1 ∧ Ws z.2 ∧ (∀ j, z.1 + q < j → z.2[j]?.getD 0 = 0) ∧ val (z.2.take (z.1 + q + 1)) = val (a.take z.1) * 2 ^ s)
      (fun z => a.length - z.1) (0, List.replicate (a.length + q + 1) 0) (St.le_of (by simp [keep, e1, e3]) (by simp [keep, e1, e3])) ⟨Nat.zero_le _, by simp, Ws.zeros _, fun j hj => by by_cases h : j < a.length + q + 1 <;> simp [List.getElem?_replicate, h], by simp [List.take_replicate, val_zeros, val]⟩ ?_
    rintro ⟨i, out⟩ ⟨hi, ho, hw, hz, hv⟩
    simp only [] at hi ho hw hz hv ⊢
    repeat (refine Do.seqk fun _ _ => ?_)
    refine Do.region [0,1,4,5,20,21,22,23] true ?_
    simp [go_sem]
    repeat (refine And.intro (by first | omega | (intros; omega) | (intros; exact And.intro (by assumption) (by omega))) ?_)
    apply_assumption -exfalso -symm
    repeat (refine Do.seqk fun _ _ => ?_)
    refine Do.cond [0,1,4,5,20,21,22] rfl (fun h => ?_) (fun h => ?_) <;> simp [go_sem] at h ⊢
    · refine Do.skip ?_
      simp [go_sem]
      apply_assumption -exfalso -symm
      refine Do.seqk fun K2 hK2 => ?_
      repeat (refine Do.seqk fun _ _ => ?_)
      refine Do.block ?_
      repeat (refine Do.seqk fun _ _ => ?_)
      refine Do.region [0,1,4,5,6,7,20,21,22] true ?_
      simp [go_sem]
      repeat (refine And.intro (by first | omega | (intros; omega) | (intros; exact And.intro (by assumption) (by omega))) ?_)
      apply_assumption -exfalso -symm
      repeat (refine Do.seqk fun _ _ => ?_)
      refine Do.draw [0,1,4,5,6,7,20,21,22] true (by kernel_rfl) ?_
      simp [go_sem]
      repeat (refine And.intro (by first | omega | (intros; omega) | (intros; exact And.intro (by assumption) (by omega))) ?_)
      refine ⟨⟨hw.get _, Nat.mod_lt _ (by decide)⟩, ⟨ho, by omega, by omega⟩, ⟨ho, by omega⟩, by kernel_rfl, ?_⟩
      apply_assumption -exfalso -symm
      rw [show ((i : Int) + (s : Int) / 64).toNat = i + q by omega, show ((s : Int) % 64).toNat = s % 64 by omega]
      have hS : 18446744073709551616 ^ i * 2 ^ s = 18446744073709551616 ^ (i + q) * 2 ^ (s % 64) := by
        rw [B64_pow, B64_pow, ← Nat.pow_add, ← Nat.pow_add]; congr 1; omega
      have hv2 := hv
      rw [val_take_succ] at hv2
      have hlow : out[i + q]?.getD 0 < 2 ^ (s % 64) := by
        have h1 := val_lt (nx.take i)
        rw [List.length_take, Nat.min_eq_left hi] at h1
        have h2 : val (a.take i) * 2 ^ s < 18446744073709551616 ^ i * 2 ^ s := Nat.mul_lt_mul_of_pos_right h1 (Nat.pow_pos (by omega))
        rw [hS, ← hv2] at h2
        exact Nat.lt_of_mul_lt_mul_left (Nat.lt_of_le_of_lt (Nat.le_add_left _ _) h2)
      rw [or_add hlow (shl_low (by omega))]
      have hsum : out[i + q]?.getD 0 + a[i]?.getD 0 * 2 ^ (s % 64) % M64 < 18446744073709551616 := by
        rw [← or_add hlow (shl_low (by omega)), B64]
        exact Nat.or_lt_two_pow (hw.get _) (Nat.mod_lt _ (by decide))
      generalize ho1 : out.set (i + q) (out[i + q]?.getD 0 + a[i]?.getD 0 * 2 ^ (s % 64) % M64) = out1
      have hl1 : out1.length = a.length + q + 1 := by rw [← ho1]; simp [ho]
      have hw1 : Ws out1 := by rw [← ho1]; exact hw.set hsum
      have hz1 : ∀ j, i + q < j → out1[j]?.getD 0 = 0 := fun j hj => by rw [← ho1, List.getElem?_set_ne (by omega)]; exact hz j hj
      repeat (refine Do.seqk fun _ _ => ?_)
      refine Do.region [0,1,4,5,6,7,20,21,22,42] true ?_
      simp [go_sem]
      repeat (refine And.intro (by first | omega | (intros; omega) | (intros; exact And.intro (by assumption) (by omega))) ?_)
      apply_assumption -exfalso -symm
      have hwi := nx.get i
      have hhi : a[i]?.getD 0 * 2 ^ (s % 64) / 18446744073709551616 < 18446744073709551616 := by
        rw [shl_high (by omega)]; exact Nat.lt_of_le_of_lt (Nat.div_le_self _ _) hwi
      suffices main : ∀ o2, o2 = out1.set (i + q + 1) (a[i]?.getD 0 * 2 ^ (s % 64) / 18446744073709551616) → K2 ⟨[(0, .v (.c (.w false a))), (1, .int .i64 s), (4, .v (.c .z)), (5, .v (.c (.r 406 (a.length + q + 1)))), (6, .int .i64 i), (7, .v (.c (.n (a[i]?.getD 0)))), (20, .v (.c (.w false a))), (21, .int .i64 a.length), (22, .int .i64 i)], [(406, .wr o2)]⟩ by
        repeat (refine Do.seqk fun _ _ => ?_)
        refine Do.cond [0,1,4,5,6,7,20,21,22] rfl (fun h2 => ?_) (fun h2 => ?_) <;> simp [go_sem] at h2 ⊢
        · repeat (refine Do.seqk fun _ _ => ?_)
          refine Do.region [0,1,4,5,6,7,20,21,22] true ?_
          simp [go_sem]
          repeat (refine And.intro (by first | omega | (intros; omega) | (intros; exact And.intro (by assumption) (by omega))) ?_)
          refine ⟨⟨by omega, hwi⟩, ⟨hl1, by omega, by omega⟩, ⟨hl1, by omega⟩, main _ ?_⟩
          rw [shl_high (by omega)]
          congr 1
          · omega
          · congr 2; omega
        · refine Do.skip ?_
          simp [go_sem]
          refine main _ ?_
          have h4 : s % 64 = 0 := by omega
          rw [h4, Nat.pow_zero, Nat.mul_one, Nat.div_eq_of_lt hwi, set_zero (hz1 _ (by omega))]
      intro o2 he
      apply hK2
      repeat (refine Do.seqk fun _ _ => ?_)
      refine Do.region [0,1,4,5,20,21,22] true ?_
      simp [go_sem]
      repeat (refine And.intro (by first | omega | (intros; omega) | (intros; exact And.intro (by assumption) (by omega))) ?_)
      refine ⟨(i + 1, o2), St.le_of rfl rfl, ⟨by simp; omega, by simp [he, hl1], by subst he; exact hw1.set hhi, fun j hj => ?_, ?_⟩, by simp; omega⟩
      · simp only [] at hj ⊢
        rw [he, List.getElem?_set_ne (by omega)]; exact hz1 j (by omega)
      · simp only []
        rw [show i + 1 + q + 1 = i + q + 1 + 1 by omega, he, val_take_set _ (by omega), ← ho1, val_take_set _ (by omega), val_take_succ a, Nat.pow_succ 18446744073709551616 (i + q)]
        exact shl_step hv2 (by rw [Nat.mul_div_cancel']; rw [Nat.pow_add]; exact Nat.dvd_mul_right _ _) hS
    · refine Do.exit ?_
      simp [go_sem]
      apply_assumption -exfalso -symm
      repeat (refine Do.seqk fun _ _ => ?_)
      refine Do.region [4] true ?_
      simp [go_sem]
      repeat (refine And.intro (by first | omega | (intros; omega) | (intros; exact And.intro (by assumption) (by omega))) ?_)
      have hi' : i = a.length := by omega
      subst hi'
      rw [List.take_of_length_le (by omega), List.take_of_length_le (Nat.le_refl _)] at hv
      have hT := @Trim_own G out (by unfold Sh; omega) hw (by rw [hv]; exact Nat.ne_of_gt (Nat.mul_pos (Nat.pos_of_ne_zero h0) (Nat.pow_pos (by decide))))
      rw [hv] at hT
      refine DoL.callV true 1202 1250 rfl rfl rfl rfl (by simp; omega) hT rfl rfl ?_
      simp [go_sem]
      apply_assumption -exfalso -symm
      refine Do.ret ?_
      simp [endRow, go_sem]
end Go.Proofs.YtbhokdhkfodpfaaGreatDoor
/- Division of numbers of any length. No condition. -/
namespace Go.Proofs.YtbhokdhkfodpfaaGreatDoor
set_option linter.unusedVariables false
set_option linter.unusedSimpArgs false
variable {G : Gl}
set_option maxHeartbeats 8000000
set_option maxRecDepth 10000
theorem WWord_does {w : Nat} (hw : w < 18446744073709551616) : Does Tryz.prog G 137 [.c (.n w)] (.v (Wn (nat w))) := by
  have hT := @Trim_does G [w] (by simp) (fun u hu => by simp at hu; omega)
  rw [show val [w] = w by simp [val]] at hT
  refine Does.of (nt := 6) Tryz.func137 rfl rfl rfl (by simp) ?_
  simp only [argTm, PV.ext, Ce.ext]
  refine Do.seqk fun _ k1_ => ?_
  refine Do.region [0] true ?_
  simp [go_sem]
  apply k1_; clear k1_
  refine Do.seqk fun _ k2_ => ?_
  refine Do.region [2] true ?_
  simp [go_sem]
  refine DoL.frz true 102 101 rfl ?_
  simp [go_sem]
  refine DoL.call true 103 rfl rfl rfl rfl (by first | exact trivial | omega | (simp; done) | (simp; omega)) (hT) rfl (by first | exact .inl rfl | exact .inr rfl) rfl ?_
  simp [go_sem]
  apply k2_; clear k2_
  refine Do.ret ?_
  simp [endQ, rets, ret1, go_sem]
  repeat (refine And.intro (by first | omega | (intros; omega) | grind) ?_)
  exact TLe.refl _
/-- The digits of a quotient by a word, from the highest one. -/
theorem dw_set {v w c L : Nat} (hc : c < L) (hw : 0 < w) : (wds (hghW v (c + 1) / w * 18446744073709551616 ^ (c + 1)) L).set c ((hghW v (c + 1) % w * 18446744073709551616 + dgw v c) / w) = wds (hghW v c / w * 18446744073709551616 ^ c) L ∧ (hghW v (c + 1) % w * 18446744073709551616 + dgw v c) % w = hghW v c % w := by
  have h1 := hi_stepW v c
  have h2 := Nat.div_add_mod (hghW v (c + 1)) w
  have h3 := dgw_lt v c
  have e : hghW v c = hghW v (c + 1) % w * 18446744073709551616 + dgw v c + w * (hghW v (c + 1) / w * 18446744073709551616) := by
    rw [h1]
    conv => lhs; rw [← h2]
    rw [Nat.add_mul, Nat.mul_assoc]
    omega
  have e1 : hghW v c / w = (hghW v (c + 1) % w * 18446744073709551616 + dgw v c) / w + hghW v (c + 1) / w * 18446744073709551616 := by
    rw [e, Nat.add_mul_div_left _ _ hw]
  have e2 : hghW v c % w = (hghW v (c + 1) % w * 18446744073709551616 + dgw v c) % w := by
    rw [e, Nat.add_mul_mod_self_left]
  have h4 := Nat.mod_lt (hghW v (c + 1)) hw
  have hq : (hghW v (c + 1) % w * 18446744073709551616 + dgw v c) / w < 18446744073709551616 := by
    rw [Nat.div_lt_iff_lt_mul hw]
    have := Nat.mul_le_mul_right 18446744073709551616 (show hghW v (c + 1) % w + 1 ≤ w from h4)
    omega
  refine ⟨?_, e2.symm⟩
  obtain ⟨Q', q1, q2, _⟩ := @wds_set (hghW v (c + 1) / w * 18446744073709551616 ^ (c + 1)) L c ((hghW v (c + 1) % w * 18446744073709551616 + dgw v c) / w) hc hq
  rw [q1]
  congr 1
  have hd : dgw (hghW v (c + 1) / w * 18446744073709551616 ^ (c + 1)) c = 0 := by
    unfold dgw
    rw [Nat.pow_succ, Nat.mul_comm (18446744073709551616 ^ c), ← Nat.mul_assoc, Nat.mul_div_cancel _ (HposW c), Nat.mul_mod_left]
  rw [hd, Nat.zero_mul, Nat.add_zero] at q2
  rw [q2, e1, Nat.add_mul, Nat.pow_succ, Nat.add_comm]
  congr 1
  rw [Nat.mul_comm (18446744073709551616 ^ c), Nat.mul_assoc]
theorem divWord_does {x : List Nat} {w : Nat} (hx : x.length < 1073741824) (wx : Ws x) (hw : 0 < w) (hwl : w < 18446744073709551616) : Does Tryz.prog G 136 [Wd x, .c (.n w)] (.t [Wn (nat (val x / w)), .c (.n (val x % w))]) := by
  obtain ⟨L, hL⟩ : ∃ L, x.length = L := ⟨_, rfl⟩
  have hxw := wds_of wx
  have hvl := val_lt wx
  rw [hL] at hxw hvl hx
  obtain ⟨v, hv⟩ : ∃ v, val x = v := ⟨_, rfl⟩
  rw [hv] at hxw hvl ⊢
  subst hxw
  clear wx hv hL
  have hlen := wds_len L
  have hT := @Trim_does G (wds (v / w) L) (by unfold Sh; rw [hlen]; omega) (wds_ws _ _)
  rw [val_wds, Nat.mod_eq_of_lt (Nat.lt_of_le_of_lt (Nat.div_le_self _ _) hvl)] at hT
  have h0 : hghW v L = 0 := hi_noneW hvl (Nat.le_refl _)
  have hset := fun c hc => @dw_set v w c L hc hw
  have hml := fun c => Nat.mod_lt (hghW v c) hw
  have hz : hghW v 0 = v := hi_zeroW v
  refine Does.of (nt := 35) Tryz.func136 rfl rfl rfl (by simp) ?_
  simp only [argTm, PV.ext, Ce.ext]
  refine Do.seqk fun _ k1_ => ?_
  refine Do.region [0,1] true ?_
  simp [go_sem, hlen, -List.reduceReplicate]
  apply k1_; clear k1_
  refine Do.seqk fun _ k2_ => ?_
  refine Do.region [0,1,6] true ?_
  simp [go_sem, hlen, -List.reduceReplicate]
  repeat (refine And.intro (by first | omega | (intros; omega) | grind) ?_)
  apply k2_; clear k2_
  refine Do.seqk fun _ k3_ => ?_
  refine Do.region [0,1,6,7] true ?_
  simp [go_sem, hlen, -List.reduceReplicate]
  apply k3_; clear k3_
  refine Do.seqk fun _ k4_ => ?_
  refine Do.seqk fun _ k5_ => ?_
  refine Do.region [0,1,6,7,8] true ?_
  simp [go_sem, hlen, -List.reduceReplicate]
  repeat (refine And.intro (by first | omega | (intros; omega) | grind) ?_)
  apply k5_; clear k5_
  refine Do.block ?_
  refine Do.loopF [0,1,6,7,8] (fun (s : Nat) => [(7, .v (.c (.n (hghW v s % w)))), (8, .int .i64 ((s : Int) - 1))]) (fun (s : Nat) => [(102, .wr (wds (hghW v s / w * 18446744073709551616 ^ s) L))]) (fun (s : Nat) => s ≤ L) (fun (s : Nat) => s) (L) (fun _ => by first | (simp [go_sem, mixS]; done) | (simp [go_sem, mixS]; rfl)) (St.le_of (by simp [keep, h0]) (by simp [keep, h0, wds_zero])) (Nat.le_refl _) ?_
  intro s hs
  refine Do.seqk fun _ k6_ => ?_
  refine Do.seqk fun _ k7_ => ?_
  refine Do.region [0,1,6,7,8,16] true ?_
  simp [go_sem, hlen, -List.reduceReplicate]
  apply k7_; clear k7_
  refine Do.cond [0,1,6,7,8] rfl (fun h => ?_) (fun h => ?_) <;> simp [go_sem, hlen, -List.reduceReplicate] at h ⊢
  · obtain ⟨j, rfl⟩ : ∃ j, s = j + 1 := ⟨s - 1, by omega⟩
    have hwj := @wds_dgw L v j (by omega)
    obtain ⟨g1, g2⟩ := hset j (by omega)
    have hD := @Div64_does G (hghW v (j + 1) % w) (dgw v j) w (dgw_lt _ _) hwl (hml _)
    rw [g2] at hD
    refine Do.skip ?_
    simp [go_sem]
    apply k6_; clear k6_
    refine Do.seqk fun _ k8_ => ?_
    refine Do.block ?_
    refine Do.region [0,1,6,7,8] true ?_
    simp [go_sem, show ((j : Int) + 1 - 1) = j by omega, hwj, hlen, -List.reduceReplicate]
    repeat (refine And.intro (by first | omega | (intros; omega) | grind) ?_)
    refine DoL.call true 609 rfl rfl rfl rfl (by first | exact trivial | omega | (simp; done) | (simp; omega)) (hD) rfl (by first | exact .inl rfl | exact .inr rfl) rfl ?_
    simp [go_sem, show ((j : Int) + 1 - 1) = j by omega, hwj, hlen, -List.reduceReplicate]
    repeat (refine And.intro (by first | omega | (intros; omega) | grind) ?_)
    apply k8_; clear k8_
    refine Do.region [0,1,6,7,8] true ?_
    simp [go_sem, show ((j : Int) + 1 - 1) = j by omega, hwj, hlen, -List.reduceReplicate]
    repeat (refine And.intro (by first | omega | (intros; omega) | grind) ?_)
    refine ⟨j, St.le_of rfl (by simp [keep, g1]), by omega, by simp⟩
  · obtain rfl : s = 0 := by omega
    rw [hz, Nat.pow_zero, Nat.mul_one]
    refine Do.exit ?_
    simp [go_sem]
    apply k4_; clear k4_
    refine Do.seqk fun _ k9_ => ?_
    refine Do.frz 102 rfl ?_
    simp [go_sem]
    refine Do.region [4,5] true ?_
    simp [go_sem, hlen, -List.reduceReplicate]
    refine DoL.call true 702 rfl rfl rfl rfl (by first | exact trivial | omega | (simp; done) | (simp; omega)) (hT) rfl (by first | exact .inl rfl | exact .inr rfl) rfl ?_
    simp [go_sem, hlen, -List.reduceReplicate]
    apply k9_; clear k9_
    refine Do.ret ?_
    simp [endQ, rets, ret1, go_sem, hlen, -List.reduceReplicate]
    repeat (refine And.intro (by first | omega | (intros; omega) | grind) ?_)
    exact TLe.refl _
end Go.Proofs.YtbhokdhkfodpfaaGreatDoor
/- Division by the schoolbook: a guess is at most 1 too great; plain. No condition. -/
namespace Go.Proofs.YtbhokdhkfodpfaaGreatDoor
set_option linter.unusedVariables false
set_option linter.unusedSimpArgs false
set_option maxHeartbeats 4000000
set_option maxRecDepth 10000
theorem top3 {X n : Nat} (hn : 2 ≤ n) (hX : X < 18446744073709551616 ^ (n + 1)) : X / 18446744073709551616 ^ (n - 2) = (dgw X n * 18446744073709551616 + dgw X (n - 1)) * 18446744073709551616 + dgw X (n - 2) := by
  obtain ⟨k, rfl⟩ : ∃ k, n = k + 2 := ⟨n - 2, by omega⟩
  rw [show k + 2 - 2 = k by omega, show k + 2 - 1 = k + 1 by omega, dgw_top hX, high_stepW X k, high_stepW X (k + 1)]
theorem top2 {V n : Nat} (hn : 2 ≤ n) (hV : V < 18446744073709551616 ^ n) : V / 18446744073709551616 ^ (n - 2) = dgw V (n - 1) * 18446744073709551616 + dgw V (n - 2) := by
  obtain ⟨k, rfl⟩ : ∃ k, n = k + 2 := ⟨n - 2, by omega⟩
  rw [show k + 2 - 2 = k by omega, show k + 2 - 1 = k + 1 by omega, dgw_top (show V < 18446744073709551616 ^ (k + 1 + 1) from hV), high_stepW V k]
/-- The guess: never too small, at most 1 too great. -/
theorem guess_near {X V n : Nat} (hn : 2 ≤ n) (hV : V < 18446744073709551616 ^ n) (hX : X < V * 18446744073709551616) (hv : 9223372036854775808 ≤ dgw V (n - 1)) :
    dgw X n ≤ dgw V (n - 1) ∧ X / V ≤ guessP (dgw X n) (dgw X (n - 1)) (dgw X (n - 2)) (dgw V (n - 1)) (dgw V (n - 2)) ∧ guessP (dgw X n) (dgw X (n - 1)) (dgw X (n - 2)) (dgw V (n - 1)) (dgw V (n - 2)) ≤ X / V + 1 := by
  have hXn : X < 18446744073709551616 ^ (n + 1) := by
    rw [Nat.pow_succ]
    exact Nat.lt_of_lt_of_le hX (Nat.mul_le_mul_right _ (Nat.le_of_lt hV))
  have hP := HposW (n - 2)
  have e3 := top3 hn hXn
  have e2 := top2 hn hV
  have hV0 : 0 < V := by
    rcases Nat.eq_zero_or_pos V with h | h
    · subst h; simp at hX
    · exact h
  refine ⟨?_, ?_⟩
  · have h1 : dgw X n = X / 18446744073709551616 ^ n := dgw_top hXn
    have h2 : dgw V (n - 1) = V / 18446744073709551616 ^ (n - 1) := dgw_top (by rw [show n - 1 + 1 = n by omega]; exact hV)
    rw [h1, h2]
    have h3 : X / 18446744073709551616 ^ n ≤ V * 18446744073709551616 / 18446744073709551616 ^ n := Nat.div_le_div_right (Nat.le_of_lt hX)
    have h4 : V * 18446744073709551616 / 18446744073709551616 ^ n = V / 18446744073709551616 ^ (n - 1) := by
      obtain ⟨k, rfl⟩ : ∃ k, n = k + 1 := ⟨n - 1, by omega⟩
      rw [show k + 1 - 1 = k by omega, Nat.pow_succ, Nat.mul_div_mul_right _ _ (by decide)]
    omega
  · unfold guessP
    rw [← e3, ← e2]
    obtain ⟨P, hPe⟩ : ∃ P, 18446744073709551616 ^ (n - 2) = P := ⟨_, rfl⟩
    rw [hPe] at hP e2 ⊢
    have hVge : 36893488147419103232 ≤ V / P := by
      rw [e2]
      omega
    have f1 := Nat.div_mul_le_self X P
    have f2 := Nat.div_mul_le_self V P
    have f3 : V < (V / P + 1) * P := by
      have := Nat.lt_div_mul_add (a := V) hP
      rw [Nat.add_mul]; omega
    have f4 := Nat.div_mul_le_self X V
    have f5 : X / V < 18446744073709551616 := (Nat.div_lt_iff_lt_mul hV0).2 (by rw [Nat.mul_comm]; exact hX)
    constructor
    · refine Nat.le_min.2 ⟨?_, by omega⟩
      rw [Nat.le_div_iff_mul_le (by omega)]
      rw [Nat.le_div_iff_mul_le hP]
      refine Nat.le_trans ?_ f4
      rw [Nat.mul_assoc]
      exact Nat.mul_le_mul_left _ f2
    · obtain ⟨q, hq⟩ : ∃ q, min (X / P / (V / P)) 18446744073709551615 = q := ⟨_, rfl⟩
      rw [hq]
      have hq1 : q ≤ X / P / (V / P) := by rw [← hq]; exact Nat.min_le_left _ _
      have hq2 : q ≤ 18446744073709551615 := by rw [← hq]; exact Nat.min_le_right _ _
      by_cases h0 : q = 0
      · rw [h0]; exact Nat.zero_le _
      · obtain ⟨r, rfl⟩ : ∃ r, q = r + 1 := ⟨q - 1, by omega⟩
        have g1 : (r + 1) * (V / P) ≤ X / P := by
          rw [Nat.le_div_iff_mul_le (by omega)] at hq1
          exact hq1
        have g2 : r ≤ X / V := by
          rw [Nat.le_div_iff_mul_le hV0]
          refine Nat.le_trans ?_ f1
          refine Nat.le_trans (Nat.mul_le_mul_left r (Nat.le_of_lt f3)) ?_
          rw [← Nat.mul_assoc]
          refine Nat.mul_le_mul_right P ?_
          refine Nat.le_trans ?_ g1
          rw [Nat.mul_add, Nat.add_mul]
          omega
        omega
theorem wds_longer {A k L : Nat} (h : A < 18446744073709551616 ^ k) (hk : k ≤ L) {z : Nat} (hz : L ≤ k + z) : (wds A k ++ List.replicate z 0).take L = wds A L := by
  have hl := wds_len k A
  refine wds_ext (by simp [hl]; omega) fun i hi => ?_
  rw [List.getElem?_take, if_pos hi]
  by_cases h1 : i < k
  · rw [List.getElem?_append_left (by rw [hl]; exact h1), wds_dgw h1]
  · rw [List.getElem?_append_right (by rw [hl]; omega), hl, dgw_none h (by omega), List.getElem?_replicate, if_pos (by omega)]
/-- The number of words of a number. -/
theorem nat_as_wds (A : Nat) : nat A = wds A (nat A).length := by
  have := wds_of (nat_ws A)
  rw [val_nat] at this
  exact this.symm
theorem nat_none {v : Nat} (h : v ≠ 0) : 0 < (nat v).length := by
  apply Nat.pos_of_ne_zero
  intro h2
  have h3 := val_nat v
  rw [List.length_eq_zero_iff.1 h2] at h3
  exact h h3.symm
theorem nat_low {A : Nat} (h : A ≠ 0) : 18446744073709551616 ^ ((nat A).length - 1) ≤ A := by
  have h1 := nat_none h
  apply Nat.le_of_not_lt
  intro h2
  rw [B64_pow] at h2
  have := nat_len h2
  omega
theorem nat_high (A : Nat) : A < 18446744073709551616 ^ (nat A).length := by
  have := val_lt (nat_ws A)
  rwa [val_nat] at this
/-- What the division begins with. -/
theorem DivIW.start2 {x y s L0 n : Nat} (hx : x < 18446744073709551616 ^ L0) (hy : 18446744073709551616 ^ (n - 1) ≤ y) (hn : 1 ≤ n) (hL : n ≤ L0) (hs : s < 64) : DivIW (x * 2 ^ s) (y * 2 ^ s) (L0 + 1) (L0 + 1 - n) (x * 2 ^ s) 0 := by
  have hp := Nat.pow_pos (n := s) (show 0 < 2 by decide)
  have hs2 : 2 ^ s < 18446744073709551616 := by
    rw [B64]; exact Nat.pow_lt_pow_right (by decide) hs
  refine ⟨?_, ?_, by simp, by simp⟩
  · rw [Nat.pow_succ]
    exact Nat.mul_lt_mul'' hx hs2
  · unfold hghW
    rw [Nat.div_lt_iff_lt_mul (HposW _)]
    have h1 : 18446744073709551616 ^ L0 = 18446744073709551616 ^ (n - 1) * 18446744073709551616 ^ (L0 + 1 - n) := by rw [← Nat.pow_add]; congr 1; omega
    have h2 : x < y * 18446744073709551616 ^ (L0 + 1 - n) := Nat.lt_of_lt_of_le hx (by rw [h1]; exact Nat.mul_le_mul_right _ hy)
    rw [Nat.mul_right_comm]
    exact Nat.mul_lt_mul_of_pos_right h2 hp
end Go.Proofs.YtbhokdhkfodpfaaGreatDoor
/- Division of numbers of any length: the walk. No condition. -/
namespace Go.Proofs.YtbhokdhkfodpfaaGreatDoor
set_option linter.unusedVariables false
set_option linter.unusedSimpArgs false
variable {G : Gl}
set_option maxHeartbeats 16000000
set_option maxRecDepth 10000
theorem WDivMod_long {x y : List Nat} (hx : x.length < 1073741000) (wx : Ws x) (hy : y.length < 1073741000) (wy : Ws y) (hn : 2 ≤ (norm y).length) (hle : val y ≤ val x) (h0 : 0 < val y) : Does Tryz.prog G 108 [Wd x, Wd y] (.t [Wn (nat (val x / val y)), Wn (nat (val x % val y))]) := by
  have h1 := @view_does G x (by unfold Sh; omega)
  have h2 := @view_does G y (by unfold Sh; omega)
  have hxl := norm_length x
  have hyl := norm_length y
  have h3 := @Cmp_does G (norm x) (norm y) (by unfold Sh; omega) (by unfold Sh; omega) (norm_ws wx) (norm_ws wy)
  rw [val_norm, val_norm, if_neg (by omega)] at h3
  rw [norm_nat wx] at h1 h3 hxl
  rw [norm_nat wy] at h2 h3 hyl hn
  obtain ⟨X, hX⟩ : ∃ X, val x = X := ⟨_, rfl⟩
  obtain ⟨Y, hY⟩ : ∃ Y, val y = Y := ⟨_, rfl⟩
  rw [hX] at h1 h3 hle hxl ⊢
  rw [hY] at h2 h3 hle h0 hn hyl ⊢
  obtain ⟨L0, hL0⟩ : ∃ L0, (nat X).length = L0 := ⟨_, rfl⟩
  obtain ⟨n, hnn⟩ : ∃ n, (nat Y).length = n := ⟨_, rfl⟩
  have xh := nat_high X
  have yh := nat_high Y
  have yl := nat_low (show Y ≠ 0 by omega)
  have xs := nat_as_wds X
  have ys := nat_as_wds Y
  rw [hL0] at xh xs hxl
  rw [hnn] at yh yl ys hn hyl
  have hnL : n ≤ L0 := by
    apply Nat.le_of_not_lt
    intro h
    have : 18446744073709551616 ^ L0 ≤ 18446744073709551616 ^ (n - 1) := Nat.pow_le_pow_right (by decide) (by omega)
    omega
  -- the highest word
  have htop : dgw Y (n - 1) = Y / 18446744073709551616 ^ (n - 1) := dgw_top (by rw [show n - 1 + 1 = n by omega]; exact yh)
  have htop0 : 0 < dgw Y (n - 1) := by
    rw [htop]
    exact Nat.div_pos yl (HposW _)
  have htl := dgw_lt Y (n - 1)
  have hbl := bl_word htl
  have hbp := bl_pos htop0
  obtain ⟨s, hs⟩ : ∃ s, s = 64 - bl (dgw Y (n - 1)) := ⟨_, rfl⟩
  obtain ⟨n1, n2⟩ := norm_word htop0 hs htl
  have hLz := @Lz_does G (dgw Y (n - 1)) htl
  rw [show (64 - (bl (dgw Y (n - 1)) : Int)) = s by omega] at hLz
  have hgt : (nat Y)[n - 1]? = some (dgw Y (n - 1)) := by rw [ys, wds_dgw (by omega)]
  have hS1 := @Shl_does G (nat Y) (by unfold Sh; omega) (nat_ws _) s (by omega)
  have hS2 := @Shl_own G (nat X) (by unfold Sh; omega) (nat_ws _) (by rw [val_nat]; omega) s (by omega)
  rw [val_nat] at hS1 hS2
  have hp2 := Nat.pow_pos (n := s) (show 0 < 2 by decide)
  obtain ⟨V, hV⟩ : ∃ V, Y * 2 ^ s = V := ⟨_, rfl⟩
  obtain ⟨U, hU⟩ : ∃ U, X * 2 ^ s = U := ⟨_, rfl⟩
  have hI0 := @DivIW.start2 X Y s L0 n xh yl (by omega) hnL (by omega)
  -- the divisor, moved
  have hYs : Y / 18446744073709551616 ^ (n - 1) * 18446744073709551616 ^ (n - 1) ≤ Y := Nat.div_mul_le_self _ _
  have hY2 : Y < (Y / 18446744073709551616 ^ (n - 1) + 1) * 18446744073709551616 ^ (n - 1) := by
    have := Nat.lt_div_mul_add (a := Y) (HposW (n - 1))
    rw [Nat.add_mul]; omega
  have hVn : V < 18446744073709551616 ^ n := by
    rw [← hV, show n = (n - 1) + 1 by omega, Nat.pow_succ, Nat.mul_comm (18446744073709551616 ^ (n - 1))]
    have e1 := Nat.mul_lt_mul_of_pos_right hY2 hp2
    rw [Nat.mul_right_comm, ← htop] at e1
    have e2 : (dgw Y (n - 1) + 1) * 2 ^ s ≤ 18446744073709551616 := by
      have hd : 18446744073709551616 = 2 ^ bl (dgw Y (n - 1)) * 2 ^ s := by rw [← Nat.pow_add, show bl (dgw Y (n - 1)) + s = 64 by omega]
      rw [hd]
      exact Nat.mul_le_mul_right _ (bl_self _)
    exact Nat.lt_of_lt_of_le e1 (Nat.mul_le_mul_right _ e2)
  have hVl : 9223372036854775808 * 18446744073709551616 ^ (n - 1) ≤ V := by
    rw [← hV]
    have e1 := Nat.mul_le_mul_right (2 ^ s) hYs
    rw [Nat.mul_right_comm, ← htop] at e1
    exact Nat.le_trans (Nat.mul_le_mul_right _ n2) e1
  have hv1 : 9223372036854775808 ≤ dgw V (n - 1) := by
    rw [dgw_top (show V < 18446744073709551616 ^ (n - 1 + 1) by rw [show n - 1 + 1 = n by omega]; exact hVn), Nat.le_div_iff_mul_le (HposW _)]
    exact hVl
  have hVw : nat V = wds V n := (nat_wds hVn (fun _ => Nat.le_trans (Nat.le_mul_of_pos_left _ (by decide)) hVl)).symm
  have hV0 : 0 < V := by rw [← hV]; exact Nat.mul_pos h0 hp2
  -- what is divided, moved
  have hUn : U < 18446744073709551616 ^ (L0 + 1) := by rw [← hU]; exact hI0.lt
  have hUlo : X ≤ U := by rw [← hU]; exact Nat.le_mul_of_pos_right _ hp2
  have hUk1 : (nat U).length ≤ L0 + 1 := by
    rw [B64_pow] at hUn
    exact nat_len hUn
  have hUk2 : L0 ≤ (nat U).length := by
    apply Nat.le_of_not_lt
    intro h
    have h4 := nat_high U
    have h5 : 18446744073709551616 ^ (nat U).length ≤ 18446744073709551616 ^ (L0 - 1) := Nat.pow_le_pow_right (by decide) (by omega)
    have h6 := nat_low (show X ≠ 0 by omega)
    rw [hL0] at h6
    omega
  have hUw : ∀ e : Nat, e = L0 + 1 → (nat U ++ [0, 0]).take e = wds U (L0 + 1) := fun e he => by
    rw [he]
    conv => lhs; rw [nat_as_wds U]
    exact wds_longer (nat_high U) hUk1 (z := 2) (by omega)
  have hqe : X / Y = U / V := by rw [← hU, ← hV, Nat.mul_div_mul_right _ _ hp2]
  have hre : X % Y = U % V / 2 ^ s := by rw [← hU, ← hV, Nat.mul_mod_mul_right, Nat.mul_div_cancel _ hp2]
  rw [hU, hV] at hI0
  rw [hV] at hS1
  rw [hU] at hS2
  rw [hVw] at hS1
  obtain ⟨L, hL⟩ : ∃ L, L = L0 + 1 := ⟨_, rfl⟩
  have hUw := hUw L hL
  rw [← hL] at hI0 hUw
  have hqb : U / V < 18446744073709551616 ^ (L - n) := by
    rw [Nat.div_lt_iff_lt_mul hV0]
    have h4 := hI0.top
    unfold hghW at h4
    rw [Nat.div_lt_iff_lt_mul (HposW _), Nat.mul_comm] at h4
    exact h4
  have hrb : U % V < 18446744073709551616 ^ L := Nat.lt_of_le_of_lt (Nat.mod_le _ _) hI0.lt
  have hT1 := @Trim_does G (wds (U / V) (L - n)) (by unfold Sh; rw [wds_len]; omega) (wds_ws _ _)
  have hT2 := @Trim_does G (wds (U % V) L) (by unfold Sh; rw [wds_len]; omega) (wds_ws _ _)
  rw [val_wds, Nat.mod_eq_of_lt hqb] at hT1
  rw [val_wds, Nat.mod_eq_of_lt hrb] at hT2
  have hSr := @Shr_does G (nat (U % V)) (by
    unfold Sh
    have h4 : (nat (U % V)).length ≤ L := by
      rw [B64_pow] at hrb
      exact nat_len hrb
    omega) (nat_ws _) s (by omega)
  rw [val_nat] at hSr
  rw [hqe, hre]
  have hlL := wds_len L
  have hlQ := wds_len (L - n)
  have hlV := wds_len n V
  have hne : ¬ n = 1 := by omega
  have hw1 := @wds_dgw n V (n - 1) (by omega)
  have hw2 := @wds_dgw n V (n - 2) (by omega)
  have hnI : (n : Int) - 1 = ((n - 1 : Nat) : Int) := by omega
  have hnI2 : (n : Int) - 2 = ((n - 2 : Nat) : Int) := by omega
  have hfin := fun A Q (h : DivIW U V L 0 A Q) => h.fin hV0
  have hcmp : ¬ (if Y < X then (1 : Int) else 0) < 0 := by split <;> omega
  generalize (if Y < X then (1 : Int) else 0) = cmp at *
  clear xh yh yl xs hY2 hYs htop n1 n2 hUn hUlo hVl hVw hqb hrb hqe hre hX hY wx wy hbl hbp hs
  refine Does.of (nt := 127) Tryz.func108 rfl rfl rfl (by simp) ?_
  simp only [argTm, PV.ext, Ce.ext]
  refine Do.seqk fun _ k1_ => ?_
  refine Do.region [0,1] true ?_
  simp [go_sem]
  apply k1_; clear k1_
  refine Do.seqk fun _ k2_ => ?_
  refine Do.region [0,1] true ?_
  simp [go_sem]
  refine DoL.call true 102 rfl rfl rfl rfl (by first | exact trivial | omega | (simp; done) | (simp; omega)) (h1) rfl (by first | exact .inl rfl | exact .inr rfl) rfl ?_
  simp [go_sem]
  refine DoL.call true 104 rfl rfl rfl rfl (by first | exact trivial | omega | (simp; done) | (simp; omega)) (h2) rfl (by first | exact .inl rfl | exact .inr rfl) rfl ?_
  simp [go_sem]
  apply k2_; clear k2_
  refine Do.seqk fun _ k3_ => ?_
  refine Do.seqk fun _ k4_ => ?_
  refine Do.region [0,1,22] true ?_
  simp [go_sem, hcmp]
  refine DoL.call true 203 rfl rfl rfl rfl (by first | exact trivial | omega | (simp; done) | (simp; omega)) (h3) rfl (by first | exact .inl rfl | exact .inr rfl) rfl ?_
  simp [go_sem, hcmp]
  apply k4_; clear k4_
  refine Do.cond [0,1] rfl (fun g1 => ?_) (fun g1 => ?_) <;> simp [go_sem, hcmp] at g1 ⊢
  refine Do.skip ?_
  simp [go_sem]
  apply k3_; clear k3_
  refine Do.seqk fun _ k5_ => ?_
  refine Do.seqk fun _ k6_ => ?_
  refine Do.region [0,1,27] true ?_
  simp [go_sem, hnn, hne]
  repeat (refine And.intro (by first | omega | (intros; omega) | grind) ?_)
  apply k6_; clear k6_
  refine Do.cond [0,1] rfl (fun g2 => ?_) (fun g2 => ?_) <;> simp [go_sem, hnn, hne] at g2 ⊢
  · omega
  · refine Do.skip ?_
    simp [go_sem]
    apply k5_; clear k5_
    refine Do.seqk fun _ k7_ => ?_
    refine Do.region [0,1,8] true ?_
    simp [go_sem, hnn, hnI, hgt]
    repeat (refine And.intro (by first | omega | (intros; omega) | grind) ?_)
    refine DoL.call true 707 rfl rfl rfl rfl (by first | exact trivial | omega | (simp; done) | (simp; omega)) (hLz) rfl (by first | exact .inl rfl | exact .inr rfl) rfl ?_
    simp [go_sem, hnn, hnI, hgt]
    apply k7_; clear k7_
    refine Do.seqk fun _ k8_ => ?_
    refine Do.region [0,8,9] true ?_
    simp [go_sem, hnn, hnI, hgt]
    refine DoL.call true 803 rfl rfl rfl rfl (by first | exact trivial | omega | (simp; done) | (simp; omega)) (hS1) rfl (by first | exact .inl rfl | exact .inr rfl) rfl ?_
    simp [go_sem, hnn, hnI, hgt]
    apply k8_; clear k8_
    refine Do.seqk fun _ k9_ => ?_
    refine Do.region [8,9,10] true ?_
    simp [go_sem, hnn, hnI, hgt]
    refine DoL.callV true 903 950 rfl rfl rfl rfl (by first | exact trivial | omega | (simp; done) | (simp; omega)) (hS2) rfl rfl ?_
    simp [go_sem, hnn, hnI, hgt]
    repeat (refine And.intro (by first | omega | (intros; omega) | grind) ?_)
    refine DoL.dropT (md := true) (lab := 908) 51 ?_
    simp [go_sem]
    refine DoL.cutW true 908 970 rfl rfl rfl (by decide) rfl rfl rfl rfl rfl rfl ⟨by simp, by omega, by simp; omega⟩ rfl rfl rfl (by decide) ?_
    rw [hL0, show ((L0 : Int) + 1).toNat = L by omega, hUw]
    simp [go_sem]
    apply k9_; clear k9_
    refine Do.seqk fun _ k10_ => ?_
    refine Do.region [8,9,10,11] true ?_
    simp [go_sem, hlL, hlQ, hlV, hnI, hnI2, -List.reduceReplicate]
    repeat (refine And.intro (by first | omega | (intros; omega) | grind) ?_)
    apply k10_; clear k10_
    refine Do.seqk fun _ k11_ => ?_
    refine Do.region [8,9,10,11,12] true ?_
    simp [go_sem, hlL, hlQ, hlV, hnI, hnI2, -List.reduceReplicate]
    repeat (refine And.intro (by first | omega | (intros; omega) | grind) ?_)
    apply k11_; clear k11_
    refine Do.seqk fun _ k12_ => ?_
    refine Do.seqk fun _ k13_ => ?_
    refine Do.region [8,9,10,11,12,13] true ?_
    simp [go_sem, hlL, hlQ, hlV, hnI, hnI2, -List.reduceReplicate]
    repeat (refine And.intro (by first | omega | (intros; omega) | grind) ?_)
    apply k13_; clear k13_
    refine Do.block ?_
    refine Do.loopF [8,9,10,11,12,13] (fun (z : Nat × Nat × Nat) => [(13, .int .i64 ((z.1 : Int) - 1))]) (fun (z : Nat × Nat × Nat) => [(970, .wr (wds z.2.1 L)), (1104, .wr (wds z.2.2 (L - n)))]) (fun (z : Nat × Nat × Nat) => z.1 ≤ L - n ∧ DivIW U V L z.1 z.2.1 z.2.2) (fun (z : Nat × Nat × Nat) => z.1) ((L - n, U, 0)) (fun _ => by first | (simp [go_sem, mixS]; done) | (simp [go_sem, mixS]; rfl)) (St.le_of (by simp [keep]; omega) (by simp [keep, wds_zero])) (⟨Nat.le_refl _, hI0⟩) ?_
    rintro ⟨c, A, Q⟩ ⟨hc, hI⟩
    simp only at hc hI
    refine Do.seqk fun _ k14_ => ?_
    refine Do.seqk fun _ k15_ => ?_
    refine Do.region [8,9,10,11,12,13,71] true ?_
    simp [go_sem, hlL, hlQ, hlV, hnI, hnI2, -List.reduceReplicate]
    apply k15_; clear k15_
    refine Do.cond [8,9,10,11,12,13] rfl (fun g3 => ?_) (fun g3 => ?_) <;> simp [go_sem, hlL, hlQ, hlV, hnI, hnI2, -List.reduceReplicate] at g3 ⊢
    · obtain ⟨j, rfl⟩ : ∃ j, c = j + 1 := ⟨c - 1, by omega⟩
      obtain ⟨p1, p2, p3, p4, p5⟩ := hI.part (by omega) hVn
      obtain ⟨t1, t2, t3⟩ := guess_near hn hVn p1 hv1
      have hu1 : (wds A L)[j + n]? = some (dgw (hghW A j) n) := by rw [wds_dgw (by omega), hgh_digW]
      have hu2 : (wds A L)[j + n - 1]? = some (dgw (hghW A j) (n - 1)) := by rw [show j + n - 1 = j + (n - 1) by omega, wds_dgw (by omega), hgh_digW]
      have hu3 : (wds A L)[j + n - 2]? = some (dgw (hghW A j) (n - 2)) := by rw [show j + n - 2 = j + (n - 2) by omega, wds_dgw (by omega), hgh_digW]
      have hG := @guess_does G (dgw (hghW A j) n) (dgw (hghW A j) (n - 1)) (dgw (hghW A j) (n - 2)) (dgw V (n - 1)) (dgw V (n - 2)) (by omega) t1 (dgw_lt _ _) (dgw_lt _ _) (dgw_lt _ _) (dgw_lt _ _)
      have hqb := guessP_le (dgw (hghW A j) n) (dgw (hghW A j) (n - 1)) (dgw (hghW A j) (n - 2)) (dgw V (n - 1)) (dgw V (n - 2))
      generalize guessP (dgw (hghW A j) n) (dgw (hghW A j) (n - 1)) (dgw (hghW A j) (n - 2)) (dgw V (n - 1)) (dgw V (n - 2)) = q at *
      have hPb : q * V < 18446744073709551616 ^ (n + 1) := by
        rw [Nat.pow_succ, Nat.mul_comm]
        exact Nat.mul_lt_mul'' hVn (by omega)
      obtain ⟨d, hSW⟩ := @SubW.mk' (hghW A j) (q * V) n p2 hPb
      obtain ⟨r1, r2⟩ := put_back hV0 hVn hSW t2 t3
      have hless := @less_does G A V q L j n (hghW A j) d (by omega) hVn (by omega) p5 (by omega) rfl hSW
      have hw' : (if hghW A j < q * V then cpyW A ((d + V) % 18446744073709551616 ^ (n + 1)) j (n + 1) else cpyW A d j (n + 1)) = cpyW A (hghW A j % V) j (n + 1) := by
        split
        · rename_i h; rw [(r1 h).2]
        · rename_i h; rw [(r2 h).2]
      rw [hw'] at hless
      obtain ⟨Q', q1, q2⟩ := hI.next (d := hghW A j % V) (by omega) hVn (by omega) (Nat.mod_add_div _ _) (Nat.mod_lt _ hV0)
      have hlA := wds_len L A
      have hlA2 := wds_len L (cpyW A (hghW A j % V) j (n + 1))
      have hlQ2 := wds_len (L - n) Q
      refine Do.skip ?_
      simp [go_sem]
      apply k14_; clear k14_
      refine Do.seqk fun _ k16_ => ?_
      refine Do.block ?_
      refine Do.seqk fun _ k17_ => ?_
      refine Do.draw [8,9,10,11,12,13,14] true (by kernel_rfl) ?_
      simp [go_sem, hlA, hlQ2, hw1, hw2, hnI, hnI2, hu1, hu2, hu3, show ((j : Int) + 1 - 1) = j by omega, show ((j : Int) + n).toNat = j + n by omega, show ((j : Int) + n - 1).toNat = j + n - 1 by omega, show ((j : Int) + n - 2).toNat = j + n - 2 by omega, -List.reduceReplicate]
      repeat (refine And.intro (by first | omega | (intros; omega) | kernel_rfl | grind) ?_)
      refine DoLD.call true 1531 rfl rfl rfl rfl (by first | exact trivial | omega | (simp; done) | (simp; omega)) (hG) rfl (by first | exact .inl rfl | exact .inr rfl) rfl ?_
      simp [go_sem, hlA, hlQ2, hw1, hw2, hnI, hnI2, hu1, hu2, hu3, show ((j : Int) + 1 - 1) = j by omega, show ((j : Int) + n).toNat = j + n by omega, show ((j : Int) + n - 1).toNat = j + n - 1 by omega, show ((j : Int) + n - 2).toNat = j + n - 2 by omega, -List.reduceReplicate]
      try (refine And.intro (by kernel_rfl) ?_)
      apply k17_; clear k17_
      refine Do.seqk fun _ k18_ => ?_
      refine Do.seqk fun _ k19_ => ?_
      refine Do.region [8,9,10,11,12,13,14,114] true ?_
      simp [go_sem, hlA, hlQ2, hw1, hw2, hnI, hnI2, hu1, hu2, hu3, show ((j : Int) + 1 - 1) = j by omega, show ((j : Int) + n).toNat = j + n by omega, show ((j : Int) + n - 1).toNat = j + n - 1 by omega, show ((j : Int) + n - 2).toNat = j + n - 2 by omega, -List.reduceReplicate]
      repeat (refine And.intro (by first | omega | (intros; omega) | grind) ?_)
      refine DoL.callX true 1606 rfl rfl rfl (by decide) rfl rfl rfl (by decide) (by decide) rfl rfl rfl (by decide) (by decide) (by decide) rfl rfl rfl rfl rfl rfl rfl rfl rfl rfl rfl rfl rfl ⟨by simp [hlA], by omega, by omega, by simp [hlA]; omega⟩ (by rw [show ((j : Int) + n + 1).toNat - ((j : Int)).toNat = n + 1 by omega]; exact hless) (by simp [hlA, hlA2]) ?_
      simp [go_sem, hlA, hlQ2, hw1, hw2, hnI, hnI2, hu1, hu2, hu3, show ((j : Int) + 1 - 1) = j by omega, show ((j : Int) + n).toNat = j + n by omega, show ((j : Int) + n - 1).toNat = j + n - 1 by omega, show ((j : Int) + n - 2).toNat = j + n - 2 by omega, -List.reduceReplicate]
      apply k19_; clear k19_
      refine Do.cond [8,9,10,11,12,13,14] rfl (fun g4 => ?_) (fun g4 => ?_) <;> simp [go_sem, hlA, hlQ2, hw1, hw2, hnI, hnI2, hu1, hu2, hu3, show ((j : Int) + 1 - 1) = j by omega, show ((j : Int) + n).toNat = j + n by omega, show ((j : Int) + n - 1).toNat = j + n - 1 by omega, show ((j : Int) + n - 2).toNat = j + n - 2 by omega, -List.reduceReplicate] at g4 ⊢
      · have e4 := (r1 (by simpa using g4)).1
        have e5 : q - 1 = hghW A j / V := by rw [e4]; rfl
        refine Do.region [8,9,10,11,12,13,14] true ?_
        simp [go_sem, e5, hlQ2, show ((j : Int) + 1 - 1) = j by omega, -List.reduceReplicate]
        repeat (refine And.intro (by first | omega | (intros; omega) | grind) ?_)
        apply k18_; clear k18_
        refine Do.region [8,9,10,11,12,13] true ?_
        simp [go_sem, e5, hlQ2, show ((j : Int) + 1 - 1) = j by omega, -List.reduceReplicate]
        repeat (refine And.intro (by first | omega | (intros; omega) | grind) ?_)
        apply k16_; clear k16_
        refine Do.region [8,9,10,11,12,13] true ?_
        simp [go_sem, e5, hlQ2, show ((j : Int) + 1 - 1) = j by omega, -List.reduceReplicate]
        repeat (refine And.intro (by first | omega | (intros; omega) | grind) ?_)
        refine ⟨(j, cpyW A (hghW A j % V) j (n + 1), Q'), St.le_of (by simp [keep]) (by simp [keep, q1]), ⟨by omega, q2⟩, by simp⟩
      · have e4 := (r2 (by simpa using g4)).1
        rw [e4]
        refine Do.skip ?_
        simp [go_sem]
        apply k18_; clear k18_
        refine Do.region [8,9,10,11,12,13] true ?_
        simp [go_sem, hlQ2, show ((j : Int) + 1 - 1) = j by omega, -List.reduceReplicate]
        repeat (refine And.intro (by first | omega | (intros; omega) | grind) ?_)
        apply k16_; clear k16_
        refine Do.region [8,9,10,11,12,13] true ?_
        simp [go_sem, hlQ2, show ((j : Int) + 1 - 1) = j by omega, -List.reduceReplicate]
        repeat (refine And.intro (by first | omega | (intros; omega) | grind) ?_)
        refine ⟨(j, cpyW A (hghW A j % V) j (n + 1), Q'), St.le_of (by simp [keep]) (by simp [keep, q1]), ⟨by omega, q2⟩, by simp⟩
    · obtain rfl : c = 0 := by omega
      obtain ⟨f1, f2⟩ := hfin A Q hI
      subst f1
      subst f2
      refine Do.exit ?_
      simp [go_sem]
      apply k12_; clear k12_
      refine Do.seqk fun _ k20_ => ?_
      refine Do.frz 1104 rfl ?_
      simp [go_sem]
      refine Do.frz 970 rfl ?_
      simp [go_sem]
      refine Do.region [4,5] true ?_
      simp [go_sem, hlL, hlQ, hlV, hnI, hnI2, -List.reduceReplicate]
      refine DoL.call true 1902 rfl rfl rfl rfl (by first | exact trivial | omega | (simp; done) | (simp; omega)) (hT1) rfl (by first | exact .inl rfl | exact .inr rfl) rfl ?_
      simp [go_sem, hlL, hlQ, hlV, hnI, hnI2, -List.reduceReplicate]
      refine DoL.call true 1904 rfl rfl rfl rfl (by first | exact trivial | omega | (simp; done) | (simp; omega)) (hT2) rfl (by first | exact .inl rfl | exact .inr rfl) rfl ?_
      simp [go_sem, hlL, hlQ, hlV, hnI, hnI2, -List.reduceReplicate]
      refine DoL.call true 1906 rfl rfl rfl rfl (by first | exact trivial | omega | (simp; done) | (simp; omega)) (hSr) rfl (by first | exact .inl rfl | exact .inr rfl) rfl ?_
      simp [go_sem, hlL, hlQ, hlV, hnI, hnI2, -List.reduceReplicate]
      apply k20_; clear k20_
      refine Do.ret ?_
      simp [endQ, rets, ret1, go_sem, hlL, hlQ, hlV, hnI, hnI2, -List.reduceReplicate]
      repeat (refine And.intro (by first | omega | (intros; omega) | grind) ?_)
      exact TLe.refl _
theorem WDivMod_does {x y : List Nat} (hx : x.length < 1073741000) (wx : Ws x) (hy : y.length < 1073741000) (wy : Ws y) (h0 : 0 < val y) : Does Tryz.prog G 108 [Wd x, Wd y] (.t [Wn (nat (val x / val y)), Wn (nat (val x % val y))]) := by
  have h1 := @view_does G x (by unfold Sh; omega)
  have h2 := @view_does G y (by unfold Sh; omega)
  have hxl := norm_length x
  have hyl := norm_length y
  have h3 := @Cmp_does G (norm x) (norm y) (by unfold Sh; omega) (by unfold Sh; omega) (norm_ws wx) (norm_ws wy)
  rw [val_norm, val_norm] at h3
  have wnx := norm_ws wx
  have wny := norm_ws wy
  by_cases hle : val y ≤ val x
  · by_cases hn : 2 ≤ (norm y).length
    · exact WDivMod_long hx wx hy wy hn hle h0
    · have hn0 : (norm y).length ≠ 0 := by
        intro h
        have h4 := val_norm y
        rw [List.length_eq_zero_iff.1 h] at h4
        exact absurd h4.symm (Nat.ne_of_gt h0)
      obtain ⟨w, hw⟩ : ∃ w, norm y = [w] := List.length_eq_one_iff.1 (by omega)
      have hv : val y = w := by rw [← val_norm y, hw]; simp [val]
      have hwl : w < 18446744073709551616 := wny w (by rw [hw]; simp)
      rw [hw] at h2 h3
      have h4 := @divWord_does G (norm x) w (by omega) wnx (by omega) hwl
      rw [val_norm] at h4
      rw [hv] at h3 ⊢
      have h5 := @WWord_does G (val x % w) (Nat.lt_trans (Nat.mod_lt _ (by omega)) hwl)
      rw [if_neg (by omega)] at h3
      have hcmp : ¬ (if w < val x then (1 : Int) else 0) < 0 := by split <;> omega
      generalize (if w < val x then (1 : Int) else 0) = cmp at *
      generalize val x / w = Q at *
      generalize val x % w = R at *
      refine Does.of (nt := 127) Tryz.func108 rfl rfl rfl (by simp) ?_
      simp only [argTm, PV.ext, Ce.ext]
      refine Do.seqk fun _ k1_ => ?_
      refine Do.region [0,1] true ?_
      simp [go_sem]
      apply k1_; clear k1_
      refine Do.seqk fun _ k2_ => ?_
      refine Do.region [0,1] true ?_
      simp [go_sem]
      refine DoL.call true 102 rfl rfl rfl rfl (by first | exact trivial | omega | (simp; done) | (simp; omega)) (h1) rfl (by first | exact .inl rfl | exact .inr rfl) rfl ?_
      simp [go_sem]
      refine DoL.call true 104 rfl rfl rfl rfl (by first | exact trivial | omega | (simp; done) | (simp; omega)) (h2) rfl (by first | exact .inl rfl | exact .inr rfl) rfl ?_
      simp [go_sem]
      apply k2_; clear k2_
      refine Do.seqk fun _ k3_ => ?_
      refine Do.seqk fun _ k4_ => ?_
      refine Do.region [0,1,22] true ?_
      simp [go_sem, hcmp]
      refine DoL.call true 203 rfl rfl rfl rfl (by first | exact trivial | omega | (simp; done) | (simp; omega)) (h3) rfl (by first | exact .inl rfl | exact .inr rfl) rfl ?_
      simp [go_sem, hcmp]
      apply k4_; clear k4_
      refine Do.cond [0,1] rfl (fun g1 => ?_) (fun g1 => ?_) <;> simp [go_sem, hcmp] at g1 ⊢
      refine Do.skip ?_
      simp [go_sem]
      apply k3_; clear k3_
      refine Do.seqk fun _ k5_ => ?_
      refine Do.seqk fun _ k6_ => ?_
      refine Do.region [0,1,27] true ?_
      simp [go_sem, hcmp]
      repeat (refine And.intro (by first | omega | (intros; omega) | grind) ?_)
      apply k6_; clear k6_
      refine Do.cond [0,1] rfl (fun g2 => ?_) (fun g2 => ?_) <;> simp [go_sem, hcmp] at g2 ⊢
      refine Do.seqk fun _ k7_ => ?_
      refine Do.region [6,7] true ?_
      simp [go_sem, hcmp]
      repeat (refine And.intro (by first | omega | (intros; omega) | grind) ?_)
      refine DoL.call true 505 rfl rfl rfl rfl (by first | exact trivial | omega | (simp; done) | (simp; omega)) (h4) rfl (by first | exact .inl rfl | exact .inr rfl) rfl ?_
      simp [go_sem, hcmp]
      apply k7_; clear k7_
      refine Do.seqk fun _ k8_ => ?_
      refine Do.region [4,5] true ?_
      simp [go_sem, hcmp]
      refine DoL.call true 603 rfl rfl rfl rfl (by first | exact trivial | omega | (simp; done) | (simp; omega)) (h5) rfl (by first | exact .inl rfl | exact .inr rfl) rfl ?_
      simp [go_sem, hcmp]
      apply k8_; clear k8_
      refine Do.ret ?_
      simp [endQ, rets, ret1, go_sem, hcmp]
      repeat (refine And.intro (by first | omega | (intros; omega) | grind) ?_)
      exact TLe.refl _
  · have hT := @Trim_does G (norm x) (by unfold Sh; omega) wnx
    rw [val_norm] at hT
    rw [if_pos (by omega)] at h3
    rw [Nat.div_eq_of_lt (by omega), Nat.mod_eq_of_lt (by omega)]
    refine Does.of (nt := 127) Tryz.func108 rfl rfl rfl (by simp) ?_
    simp only [argTm, PV.ext, Ce.ext]
    refine Do.seqk fun _ k1_ => ?_
    refine Do.region [0,1] true ?_
    simp [go_sem]
    apply k1_; clear k1_
    refine Do.seqk fun _ k2_ => ?_
    refine Do.region [0,1] true ?_
    simp [go_sem]
    refine DoL.call true 102 rfl rfl rfl rfl (by first | exact trivial | omega | (simp; done) | (simp; omega)) (h1) rfl (by first | exact .inl rfl | exact .inr rfl) rfl ?_
    simp [go_sem]
    refine DoL.call true 104 rfl rfl rfl rfl (by first | exact trivial | omega | (simp; done) | (simp; omega)) (h2) rfl (by first | exact .inl rfl | exact .inr rfl) rfl ?_
    simp [go_sem]
    apply k2_; clear k2_
    refine Do.seqk fun _ k3_ => ?_
    refine Do.seqk fun _ k4_ => ?_
    refine Do.region [0,1,22] true ?_
    simp [go_sem]
    refine DoL.call true 203 rfl rfl rfl rfl (by first | exact trivial | omega | (simp; done) | (simp; omega)) (h3) rfl (by first | exact .inl rfl | exact .inr rfl) rfl ?_
    simp [go_sem]
    apply k4_; clear k4_
    refine Do.cond [0,1] rfl (fun g1 => ?_) (fun g1 => ?_) <;> simp [go_sem] at g1 ⊢
    refine Do.seqk fun _ k5_ => ?_
    refine Do.region [4,5] true ?_
    simp [go_sem]
    refine DoL.call true 302 rfl rfl rfl rfl (by first | exact trivial | omega | (simp; done) | (simp; omega)) (hT) rfl (by first | exact .inl rfl | exact .inr rfl) rfl ?_
    simp [go_sem]
    apply k5_; clear k5_
    refine Do.ret ?_
    simp [endQ, rets, ret1, go_sem]
    repeat (refine And.intro (by first | omega | (intros; omega) | grind) ?_)
    exact TLe.t (.cons (by rw [nat_zero]; exact PLe.z true) (.cons (PLe.refl _) .nil))
end Go.Proofs.YtbhokdhkfodpfaaGreatDoor
/- Rounding of quotients, plain: how far a quotient is written does not matter. No condition. -/
namespace Go.Proofs.YtbhokdhkfodpfaaGreatDoor
set_option linter.unusedVariables false
set_option linter.unusedSimpArgs false
set_option maxHeartbeats 4000000
set_option maxRecDepth 10000
/-- A quotient, written K digits far, and whether anything is left. -/
def quoM (v d K : Nat) : Nat := v * 2 ^ K / d
def quoS (v d K : Nat) : Bool := !decide (v * 2 ^ K % d = 0)
theorem two_pos' (k : Nat) : 0 < 2 ^ k := Nat.pow_pos (by decide)
theorem quo_deep {v d s j : Nat} (hd : 0 < d) : quoM v d (s + j) / 2 ^ j = quoM v d s ∧ (quoS v d (s + j) || !decide (quoM v d (s + j) % 2 ^ j = 0)) = quoS v d s := by
  have hj := two_pos' j
  have e0 : v * 2 ^ (s + j) = v * 2 ^ s * 2 ^ j := by rw [Nat.pow_add, Nat.mul_assoc]
  constructor
  · unfold quoM
    rw [e0, Nat.div_div_eq_div_mul, Nat.mul_div_mul_right _ _ hj]
  · have key : v * 2 ^ s % d = 0 ↔ (v * 2 ^ (s + j) % d = 0 ∧ quoM v d (s + j) % 2 ^ j = 0) := by
      unfold quoM
      rw [e0]
      constructor
      · intro h
        obtain ⟨c, hc⟩ := Nat.dvd_of_mod_eq_zero h
        rw [hc, Nat.mul_assoc]
        exact ⟨Nat.mul_mod_right _ _, by rw [Nat.mul_div_cancel_left _ hd]; exact Nat.mul_mod_left _ _⟩
      · rintro ⟨h1, h2⟩
        obtain ⟨q, hq⟩ := Nat.dvd_of_mod_eq_zero h1
        rw [hq, Nat.mul_div_cancel_left _ hd] at h2
        obtain ⟨c, rfl⟩ := Nat.dvd_of_mod_eq_zero h2
        have h3 : v * 2 ^ s = d * c := by
          refine Nat.eq_of_mul_eq_mul_right hj ?_
          rw [hq]; ac_rfl
        rw [h3]; exact Nat.mul_mod_right _ _
    unfold quoS
    by_cases h1 : v * 2 ^ s % d = 0
    · obtain ⟨h2, h3⟩ := key.1 h1
      simp [h1, h2, h3]
    · by_cases h2 : v * 2 ^ (s + j) % d = 0
      · have h3 : ¬ quoM v d (s + j) % 2 ^ j = 0 := fun h => h1 (key.2 ⟨h2, h⟩)
        simp [h1, h2, h3]
      · simp [h1, h2]
theorem quo_bl {v d K j : Nat} (hd : 0 < d) : j < bl (quoM v d K) ↔ d * 2 ^ j ≤ v * 2 ^ K := by
  unfold quoM
  rw [bl_le, Nat.le_div_iff_mul_le hd, Nat.mul_comm]
theorem cutP_deep {M j : Nat} {s : Int} {st : Bool} (hs : 1 ≤ s) : cutP M (s + j) st = cutP (M / 2 ^ j) s (st || !decide (M % 2 ^ j = 0)) := by
  obtain ⟨k, rfl⟩ : ∃ k : Nat, s = k + 1 := ⟨(s - 1).toNat, by omega⟩
  unfold cutP
  rw [if_neg (show ¬ ((k : Int) + 1 + j ≤ 0) by omega), if_neg (show ¬ ((k : Int) + 1 ≤ 0) by omega), show ((k : Int) + 1 + j).toNat = j + (k + 1) by omega, show ((k : Int) + 1 + j - 1).toNat = j + k by omega, show ((k : Int) + 1).toNat = k + 1 by omega, show ((k : Int) + 1 - 1).toNat = k by omega]
  rw [Nat.pow_add 2 j (k + 1), Nat.pow_add 2 j k, Nat.div_div_eq_div_mul, Nat.div_div_eq_div_mul, Nat.mod_mul]
  have hj := two_pos' j
  have e : (st || !decide (M % 2 ^ j + 2 ^ j * (M / 2 ^ j % 2 ^ k) = 0)) = (st || !decide (M % 2 ^ j = 0) || !decide (M / 2 ^ j % 2 ^ k = 0)) := by
    by_cases h1 : M % 2 ^ j = 0
    · by_cases h2 : M / 2 ^ j % 2 ^ k = 0
      · simp [h1, h2]
      · have := Nat.mul_pos hj (Nat.pos_of_ne_zero h2)
        have h3 : ¬ 2 ^ j * (M / 2 ^ j % 2 ^ k) = 0 := by omega
        simp only [h1, h2, Nat.zero_add, h3, decide_true, decide_false, Bool.not_true, Bool.not_false, Bool.or_false]
    · simp [h1]
  rw [e]
theorem stepP_ge (f p E : Int) : E - p + 1 ≤ stepP f p E := by unfold stepP; split <;> omega
/-- Written further, a number is rounded alike. -/
theorem roundP_deep {f p r : Int} {n : Bool} {M j : Nat} {e : Int} {st : Bool} (hp : 0 ≤ p) (hM : p + 2 ≤ bl (M / 2 ^ j)) : roundP f p r n M (e - j) st = roundP f p r n (M / 2 ^ j) e (st || !decide (M % 2 ^ j = 0)) := by
  have hb := bl_div M j
  have hE : e - j + bl M - 1 = e + bl (M / 2 ^ j) - 1 := by omega
  have hu := stepP_ge f p (e + bl (M / 2 ^ j) - 1)
  unfold roundP
  simp only []
  rw [hE]
  generalize stepP f p (e + bl (M / 2 ^ j) - 1) = u at *
  rw [show u - (e - j) = (u - e) + j by omega, cutP_deep (by omega)]
theorem quo_enough {v d s : Nat} {p : Int} (hv : 0 < v) (hd : 0 < d) (hp : 0 ≤ p) (hs : p + 3 - bl v + bl d ≤ s) : p + 3 ≤ bl (quoM v d s) := by
  obtain ⟨P, rfl⟩ : ∃ P : Nat, p = P := ⟨p.toNat, by omega⟩
  have hb := bl_pos hv
  have : P + 2 < bl (quoM v d s) := by
    rw [quo_bl hd]
    have h1 : 2 ^ (bl v - 1) ≤ v := (bl_le _ _).1 (by omega)
    have h2 := bl_self d
    calc d * 2 ^ (P + 2) ≤ 2 ^ bl d * 2 ^ (P + 2) := Nat.mul_le_mul_right _ (Nat.le_of_lt h2)
      _ = 2 ^ (bl d + (P + 2)) := (Nat.pow_add _ _ _).symm
      _ ≤ 2 ^ (bl v - 1 + s) := Nat.pow_le_pow_right (by decide) (by omega)
      _ = 2 ^ (bl v - 1) * 2 ^ s := Nat.pow_add _ _ _
      _ ≤ v * 2 ^ s := Nat.mul_le_mul_right _ h1
  omega
end Go.Proofs.YtbhokdhkfodpfaaGreatDoor
/- Rounding to odd, plain. No condition. -/
namespace Go.Proofs.YtbhokdhkfodpfaaGreatDoor
set_option linter.unusedVariables false
set_option linter.unusedSimpArgs false
set_option maxHeartbeats 4000000
set_option maxRecDepth 10000
end Go.Proofs.YtbhokdhkfodpfaaGreatDoor
/- Quotients rounded, and rounded to odd, by the program. No condition. -/
namespace Go.Proofs.YtbhokdhkfodpfaaGreatDoor
set_option linter.unusedVariables false
set_option linter.unusedSimpArgs false
set_option maxHeartbeats 8000000
set_option maxRecDepth 10000
end Go.Proofs.YtbhokdhkfodpfaaGreatDoor
