/- The law ConvertLarge holds, for every input: numbers with too many words give ErrSize, whatever else is wrong. Conditions: the two listed package variables hold what the program's text lays (tied by the card). -/
import Derived.Test.YtokgalpflooegaaDoorMj
import Derived.Test.YtokgalpflooegaaDoorMi
import Derived.Test.YtokgalpflooegaaDoorCards
import Derived.Test.YtokgalpflooegaaDoorTie
import Derived.SevenTiedAt
/- The law ConvertLarge. No condition. -/
namespace Go.Proofs.YtokgalpflooegaaDoor
set_option linter.unusedVariables false
set_option linter.unusedSimpArgs false
set_option maxHeartbeats 4000000
set_option maxRecDepth 10000
/-- The first 40 words, and 0 up to 4097 of them. -/
def longW20 (m : List Nat) : List Nat := m.take 40 ++ List.replicate (4097 - min m.length 40) 0
theorem Long20_does {G : Gl} {k e : Int} {n : Bool} {m : List Nat} (hm : Sh m) : Does Tryd.prog G 29 [Fl k n e m] (.v (.a [.i .i64 k, .b n, .i .i64 e, .w true (longW20 m)])) := by
  refine Does.of (nt := 28) Tryd.func29 rfl rfl rfl (by simp) ?_
  simp only [argTm, PV.ext, Ce.ext]
  refine Do.seqk fun _ k1_ => ?_
  refine Do.region [1,2] true ?_
  simp [go_sem, -List.reduceReplicate]
  apply k1_; clear k1_
  refine Do.seqk fun _ k2_ => ?_
  refine Do.region [1,2,3] true ?_
  simp [go_sem, -List.reduceReplicate]
  repeat (refine And.intro (by first | omega | (intros; omega) | (intros; exact And.intro (by assumption) (by omega)) | grind) ?_)
  apply k2_; clear k2_
  refine Do.seqk fun _ k3_ => ?_
  refine Do.seqk fun _ k4_ => ?_
  refine Do.region [1,2,3,4] true ?_
  simp [go_sem, -List.reduceReplicate]
  apply k4_; clear k4_
  refine Do.block ?_
  refine Do.loopF [1,2,3,4] (fun (i : Nat) => [(4, .int .i64 i)]) (fun (i : Nat) => [(100, .wr (m.take i ++ List.replicate (4097 - i) 0))]) (fun (i : Nat) => i ≤ m.length ∧ i ≤ 40) (fun (i : Nat) => 40 - i) (0) (fun _ => by first | (simp [go_sem, mixS]; done) | (simp [go_sem, mixS]; rfl)) (St.le_of (by first | rfl | simp [keep]) (by first | rfl | simp [keep])) (⟨Nat.zero_le _, Nat.zero_le _⟩) ?_
  rintro i ⟨hi, hi2⟩
  refine Do.seqk fun _ k5_ => ?_
  refine Do.seqk fun _ k6_ => ?_
  refine Do.region [1,2,3,4,14] true ?_
  simp [go_sem, -List.reduceReplicate]
  repeat (refine And.intro (by first | omega | (intros; omega) | (intros; exact And.intro (by assumption) (by omega)) | grind) ?_)
  apply k6_; clear k6_
  refine Do.cond [1,2,3,4] rfl (fun h => ?_) (fun h => ?_) <;> simp [go_sem, -List.reduceReplicate] at h ⊢
  · obtain ⟨w, hx⟩ : ∃ w, m[i]? = some w := ⟨_, List.getElem?_eq_getElem (by omega)⟩
    have hmin : min i m.length = i := by omega
    have hrep : (List.replicate (4097 - i) 0).set 0 w = w :: List.replicate (4097 - (i + 1)) 0 := by rw [show 4097 - i = 4097 - (i + 1) + 1 by omega, List.replicate_succ]; rfl
    refine Do.skip ?_
    simp [go_sem]
    apply k5_; clear k5_
    refine Do.seqk fun _ k7_ => ?_
    refine Do.block ?_
    refine Do.region [1,2,3,4] true ?_
    simp [go_sem, hx, hmin, hrep, -List.reduceReplicate]
    repeat (refine And.intro (by first | omega | (intros; omega) | (intros; exact And.intro (by assumption) (by omega)) | grind) ?_)
    apply k7_; clear k7_
    refine Do.region [1,2,3,4] true ?_
    simp [go_sem, hx, hmin, hrep, -List.reduceReplicate]
    repeat (refine And.intro (by first | omega | (intros; omega) | (intros; exact And.intro (by assumption) (by omega)) | grind) ?_)
    refine ⟨i + 1, St.le_of rfl (by simp [keep, List.take_add_one, hx, -List.reduceReplicate]), by omega, by simp; omega⟩
  · have hc : 4097 = min i m.length + (4097 - i) := by omega
    refine Do.exit ?_
    simp [go_sem]
    apply k3_; clear k3_
    refine Do.seqk fun _ k8_ => ?_
    refine Do.frz 100 rfl ?_
    refine Do.region [1,2] true ?_
    simp [go_sem, eq_true hc, -List.reduceReplicate]
    repeat (refine And.intro (by first | omega | (intros; omega) | (intros; exact And.intro (by assumption) (by omega)) | grind) ?_)
    apply k8_; clear k8_
    refine Do.seqk fun _ k9_ => ?_
    refine Do.region [2] true ?_
    simp [go_sem, eq_true hc, -List.reduceReplicate]
    repeat (refine And.intro (by first | omega | (intros; omega) | (intros; exact And.intro (by assumption) (by omega)) | grind) ?_)
    apply k9_; clear k9_
    refine Do.ret ?_
    simp [endQ, rets, ret1, go_sem, eq_true hc, -List.reduceReplicate]
    repeat (refine And.intro (by first | omega | (intros; omega) | (intros; exact And.intro (by assumption) (by omega)) | grind) ?_)
    have hi3 : i = min m.length 40 := by omega
    have ht : List.take i m = List.take 40 m := by
      rcases Nat.lt_or_ge m.length 40 with h4 | h4
      · rw [List.take_of_length_le (by omega), List.take_of_length_le (by omega)]
      · rw [show i = 40 by omega]
    rw [ht, hi3]
    exact TLe.refl _
theorem longW20_len (m : List Nat) : (longW20 m).length = 4097 := by
  unfold longW20; rw [List.length_append, List.length_take, List.length_replicate]; omega
theorem longW20_ws {m : List Nat} (h : Ws m) : Ws (longW20 m) := fun w hw => by
  rcases List.mem_append.1 hw with hw | hw
  · exact h w (List.mem_of_mem_take hw)
  · have := List.eq_of_mem_replicate hw; omega
theorem ConvertLarge_does {f p g q r : Int} {x : Fla} (hx : Ws x.m) (ex : I64 x.e) : Does Tryd.prog Gv 7 [Fm f p, Fm g q, .c (.i .i64 r), Fl x.k x.n x.e x.m] (.v (.c (.b true))) := by
  have hS : Does Tryd.prog Gv 14 [.s false [x.cs]] (.v (.c (.b (shortP [x])))) := Short15_does (l := [x]) (by simp)
  cases hs : shortP [x] with
  | false =>
    rw [hs] at hS
    refine Does.of (nt := 165) Tryd.func7 rfl rfl rfl (by simp) ?_
    simp only [argTm, PV.ext, Ce.ext]
    refine Do.seqk fun _ k1_ => ?_
    refine Do.region [2,4,5,7] true ?_
    simp [go_sem]
    apply k1_; clear k1_
    refine Do.seqk fun _ k2_ => ?_
    refine Do.seqk fun _ k3_ => ?_
    refine Do.region [2,4,5,7,35] true ?_
    simp [go_sem]
    repeat (refine And.intro (by first | omega | (intros; omega) | (intros; exact And.intro (by assumption) (by omega)) | grind) ?_)
    refine DoL.sealS true 102 101 rfl ?_
    simp [go_sem]
    refine DoL.call true 103 rfl rfl rfl rfl (by first | exact trivial | omega | (simp; done) | (simp; omega)) (hS) rfl (by first | exact .inl rfl | exact .inr rfl) rfl ?_
    simp [go_sem]
    repeat (refine And.intro (by first | omega | (intros; omega) | (intros; exact And.intro (by assumption) (by omega)) | grind) ?_)
    apply k3_; clear k3_
    refine Do.cond [2,4,5,7] rfl (fun h => ?_) (fun h => ?_) <;> simp [go_sem] at h ⊢
    refine Do.seqk fun _ k4_ => ?_
    refine Do.region [8] true ?_
    simp [go_sem]
    refine DoL.call true 201 rfl rfl rfl rfl (by first | exact trivial | omega | (simp; done) | (simp; omega)) (awake20_does) rfl (by first | exact .inl rfl | exact .inr rfl) rfl ?_
    simp [go_sem]
    apply k4_; clear k4_
    refine Do.ret ?_
    simp [endQ, rets, ret1, go_sem]
    repeat (refine And.intro (by first | omega | (intros; omega) | (intros; exact And.intro (by assumption) (by omega)) | grind) ?_)
    exact TLe.refl _
  | true =>
    rw [hs] at hS
    have hsx : x.m.length ≤ 40 := by simpa [shortP] using hs
    obtain ⟨z, hz⟩ : ∃ z : Fla, z = ⟨x.k, x.n, x.e, longW20 x.m⟩ := ⟨_, rfl⟩
    have zl : z.m.length = 4097 := by subst hz; exact longW20_len _
    have wz : Ws z.m := by subst hz; exact longW20_ws hx
    have oz : z.Ok := by subst hz; exact ⟨by simp only [Sh, longW20_len]; decide, longW20_ws hx, ex⟩
    have hzl : 4096 < z.m.length := by omega
    have hL : Does Tryd.prog Gv 29 [Fl x.k x.n x.e x.m] (.v (.a [.i .i64 z.k, .b z.n, .i .i64 z.e, .w true z.m])) := by subst hz; exact Long20_does (by simp [Sh]; omega)
    have hc : ∀ r g q, argsC f p g q r false z = 2 := fun r g q => by rw [argsC, if_pos hzl]
    have h1 := @Convert_does f p g q r z oz
    rw [convP, if_neg (by rw [hc]; decide), hc] at h1
    have hq : checkQ r z.m [1] = 2 := by rw [checkQ, if_pos (.inl hzl)]
    have h2 := @FromInt_does f p r false z.m oz.sh wz
    rw [roundQ, hq, if_pos (by decide)] at h2
    have h3 := @ToInt_err f p r z oz (by rw [hc]; decide)
    have h4 := @ToBits_large f p r z oz hzl
    have h5 := @Integral_err f p r z oz (by rw [hc]; decide)
    have h6 := @Parts_err f p z oz (by rw [hc]; decide)
    have hq2 : checkQ 2 z.m [] = 2 := by rw [checkQ, if_pos (.inl hzl)]
    have h7 := @Odd_err f p false z.m [] oz.sh (by decide) (by rw [hq2]; decide)
    rw [hc] at h3 h5 h6
    rw [hq2] at h7
    have h1 : Does Tryd.prog Gv 16 [Fm f p, Fm g q, .c (.i .i64 r), Fl z.k z.n z.e z.m] (.t [Fl 0 false 0 (nat 0), .c (.i .i64 0), .c (.i .i64 2)]) := h1
    have h2 : Does Tryd.prog Gv 11 [Fm f p, .c (.i .i64 r), .a [.b false, .w false z.m]] (.t [Fl 0 false 0 (nat 0), .c (.i .i64 0), .c (.i .i64 2)]) := h2
    have h5 : Does Tryd.prog Gv 31 [Fm f p, .c (.i .i64 r), Fl z.k z.n z.e z.m] (.t [Fl 0 false 0 (nat 0), .c (.i .i64 0), .c (.i .i64 2)]) := h5
    have h6 : Does Tryd.prog Gv 32 [Fm f p, Fl z.k z.n z.e z.m] (.t [Fl 0 false 0 (nat 0), Fl 0 false 0 (nat 0), .c (.i .i64 2)]) := h6
    have h7 : Does Tryd.prog Gv 24 [Fm f p, .a [.b false, .w false z.m, .w false []]] (.t [Fl 0 false 0 (nat 0), .c (.i .i64 0), .c (.i .i64 2)]) := h7
    have h7 : Does Tryd.prog Gv 24 [Fm f p, .a [.b false, .w false z.m, .z]] (.t [Fl 0 false 0 (nat 0), .c (.i .i64 0), .c (.i .i64 2)]) := h7.weak (.cons (PLe.refl _) (.cons (PLe.agg (.cons (PLe.refl _) (.cons (PLe.refl _) (.cons (PLe.z false) .nil)))) .nil))
    rw [nat_zero] at h1 h2 h5 h6 h7
    have hF := @Fits_none 0 0 false [] 0 2 ⟨rfl, rfl, rfl, rfl⟩ (by decide) 2
    have hN := @None_does Gv 0 0 false [] (by simp [Sh])
    have hI := @NoInt_does20 0 false [] (by decide)
    have hI : Does Tryd.prog Gv 34 [.a [.b false, .z]] (.v (.c (.b true))) := hI.weak (.cons (PLe.agg (.cons (PLe.refl _) (.cons (PLe.z false) .nil))) .nil)
    refine Does.of (nt := 165) Tryd.func7 rfl rfl rfl (by simp) ?_
    simp only [argTm, PV.ext, Ce.ext]
    refine Do.seqk fun _ k1_ => ?_
    refine Do.region [2,4,5,7] true ?_
    simp [go_sem]
    apply k1_; clear k1_
    refine Do.seqk fun _ k2_ => ?_
    refine Do.seqk fun _ k3_ => ?_
    refine Do.region [2,4,5,7,35] true ?_
    simp [go_sem]
    repeat (refine And.intro (by first | omega | (intros; omega) | (intros; exact And.intro (by assumption) (by omega)) | grind) ?_)
    refine DoL.sealS true 102 101 rfl ?_
    simp [go_sem]
    refine DoL.call true 103 rfl rfl rfl rfl (by first | exact trivial | omega | (simp; done) | (simp; omega)) (hS) rfl (by first | exact .inl rfl | exact .inr rfl) rfl ?_
    simp [go_sem]
    repeat (refine And.intro (by first | omega | (intros; omega) | (intros; exact And.intro (by assumption) (by omega)) | grind) ?_)
    apply k3_; clear k3_
    refine Do.cond [2,4,5,7] rfl (fun h => ?_) (fun h => ?_) <;> simp [go_sem] at h ⊢
    refine Do.skip ?_
    simp [go_sem]
    apply k2_; clear k2_
    refine Do.seqk fun _ k4_ => ?_
    refine Do.region [2,4,5,9] true ?_
    simp [go_sem]
    repeat (refine And.intro (by first | omega | (intros; omega) | (intros; exact And.intro (by assumption) (by omega)) | grind) ?_)
    refine DoL.call true 302 rfl rfl rfl rfl (by first | exact trivial | omega | (simp; done) | (simp; omega)) (hL) rfl (by first | exact .inl rfl | exact .inr rfl) rfl ?_
    simp [go_sem]
    repeat (refine And.intro (by first | omega | (intros; omega) | (intros; exact And.intro (by assumption) (by omega)) | grind) ?_)
    apply k4_; clear k4_
    refine Do.seqk fun _ k5_ => ?_
    refine Do.region [2,4,9,10,11,12] true ?_
    simp [go_sem]
    repeat (refine And.intro (by first | omega | (intros; omega) | (intros; exact And.intro (by assumption) (by omega)) | grind) ?_)
    refine DoL.call true 405 rfl rfl rfl rfl (by first | exact trivial | omega | (simp; done) | (simp; omega)) (h1) rfl (by first | exact .inl rfl | exact .inr rfl) rfl ?_
    simp [go_sem]
    repeat (refine And.intro (by first | omega | (intros; omega) | (intros; exact And.intro (by assumption) (by omega)) | grind) ?_)
    apply k5_; clear k5_
    refine Do.seqk fun _ k6_ => ?_
    refine Do.region [2,4,9,10,11,12,13,14,15] true ?_
    simp [go_sem]
    repeat (refine And.intro (by first | omega | (intros; omega) | (intros; exact And.intro (by assumption) (by omega)) | grind) ?_)
    refine DoL.call true 506 rfl rfl rfl rfl (by first | exact trivial | omega | (simp; done) | (simp; omega)) (h2) rfl (by first | exact .inl rfl | exact .inr rfl) rfl ?_
    simp [go_sem]
    repeat (refine And.intro (by first | omega | (intros; omega) | (intros; exact And.intro (by assumption) (by omega)) | grind) ?_)
    apply k6_; clear k6_
    refine Do.seqk fun _ k7_ => ?_
    refine Do.region [2,4,9,10,11,12,13,14,15,16,17,18] true ?_
    simp [go_sem]
    repeat (refine And.intro (by first | omega | (intros; omega) | (intros; exact And.intro (by assumption) (by omega)) | grind) ?_)
    refine DoL.call true 604 rfl rfl rfl rfl (by first | exact trivial | omega | (simp; done) | (simp; omega)) (h3) rfl (by first | exact .inl rfl | exact .inr rfl) rfl ?_
    simp [go_sem]
    repeat (refine And.intro (by first | omega | (intros; omega) | (intros; exact And.intro (by assumption) (by omega)) | grind) ?_)
    apply k7_; clear k7_
    refine Do.seqk fun _ k8_ => ?_
    refine Do.region [2,4,9,10,11,12,13,14,15,16,17,18,19,20,21] true ?_
    simp [go_sem]
    repeat (refine And.intro (by first | omega | (intros; omega) | (intros; exact And.intro (by assumption) (by omega)) | grind) ?_)
    refine DoL.call true 704 rfl rfl rfl rfl (by first | exact trivial | omega | (simp; done) | (simp; omega)) (h4) rfl (by first | exact .inl rfl | exact .inr rfl) rfl ?_
    simp [go_sem]
    repeat (refine And.intro (by first | omega | (intros; omega) | (intros; exact And.intro (by assumption) (by omega)) | grind) ?_)
    apply k8_; clear k8_
    refine Do.seqk fun _ k9_ => ?_
    refine Do.region [4,9,10,11,12,13,14,15,16,17,18,19,20,21,22,23,24] true ?_
    simp [go_sem]
    repeat (refine And.intro (by first | omega | (intros; omega) | (intros; exact And.intro (by assumption) (by omega)) | grind) ?_)
    refine DoL.call true 804 rfl rfl rfl rfl (by first | exact trivial | omega | (simp; done) | (simp; omega)) (h5) rfl (by first | exact .inl rfl | exact .inr rfl) rfl ?_
    simp [go_sem]
    repeat (refine And.intro (by first | omega | (intros; omega) | (intros; exact And.intro (by assumption) (by omega)) | grind) ?_)
    apply k9_; clear k9_
    refine Do.seqk fun _ k10_ => ?_
    refine Do.region [4,9,10,11,12,13,14,15,16,17,18,19,20,21,22,23,24,25,26,27] true ?_
    simp [go_sem]
    repeat (refine And.intro (by first | omega | (intros; omega) | (intros; exact And.intro (by assumption) (by omega)) | grind) ?_)
    refine DoL.call true 903 rfl rfl rfl rfl (by first | exact trivial | omega | (simp; done) | (simp; omega)) (h6) rfl (by first | exact .inl rfl | exact .inr rfl) rfl ?_
    simp [go_sem]
    repeat (refine And.intro (by first | omega | (intros; omega) | (intros; exact And.intro (by assumption) (by omega)) | grind) ?_)
    apply k10_; clear k10_
    refine Do.seqk fun _ k11_ => ?_
    refine Do.region [10,11,12,13,14,15,16,17,18,19,20,21,22,23,24,25,26,27,28,29,30] true ?_
    simp [go_sem]
    repeat (refine And.intro (by first | omega | (intros; omega) | (intros; exact And.intro (by assumption) (by omega)) | grind) ?_)
    refine DoL.call true 1006 rfl rfl rfl rfl (by first | exact trivial | omega | (simp; done) | (simp; omega)) (h7) rfl (by first | exact .inl rfl | exact .inr rfl) rfl ?_
    simp [go_sem]
    repeat (refine And.intro (by first | omega | (intros; omega) | (intros; exact And.intro (by assumption) (by omega)) | grind) ?_)
    apply k11_; clear k11_
    refine Do.seqk fun _ k12_ => ?_
    refine Do.region [10,11,12,13,14,15,16,17,18,19,20,21,22,23,24,25,26,27,28,29,30,31] true ?_
    simp [go_sem]
    repeat (refine And.intro (by first | omega | (intros; omega) | (intros; exact And.intro (by assumption) (by omega)) | grind) ?_)
    apply k12_; clear k12_
    refine Do.seqk fun _ k13_ => ?_
    refine Do.region [8] true ?_
    simp [go_sem]
    repeat (refine And.intro (by first | omega | (intros; omega) | (intros; exact And.intro (by assumption) (by omega)) | grind) ?_)
    refine DoL.call true 1205 rfl rfl rfl rfl (by first | exact trivial | omega | (simp; done) | (simp; omega)) (hF) rfl (by first | exact .inl rfl | exact .inr rfl) rfl ?_
    simp [go_sem]
    repeat (refine And.intro (by first | omega | (intros; omega) | (intros; exact And.intro (by assumption) (by omega)) | grind) ?_)
    refine DoL.callg true 1211 rfl rfl rfl rfl rfl (by simp [go_sem] <;> omega) (fun _ => hF) rfl (by first | exact .inl rfl | exact .inr rfl) rfl ?_
    simp [go_sem]
    repeat (refine And.intro (by first | omega | (intros; omega) | (intros; exact And.intro (by assumption) (by omega)) | grind) ?_)
    refine DoL.callg true 1219 rfl rfl rfl rfl rfl (by simp [go_sem] <;> omega) (fun _ => hI) rfl (by first | exact .inl rfl | exact .inr rfl) rfl ?_
    simp [go_sem]
    repeat (refine And.intro (by first | omega | (intros; omega) | (intros; exact And.intro (by assumption) (by omega)) | grind) ?_)
    refine DoL.callg true 1231 rfl rfl rfl rfl rfl (by simp [go_sem] <;> omega) (fun _ => hI) rfl (by first | exact .inl rfl | exact .inr rfl) rfl ?_
    simp [go_sem]
    repeat (refine And.intro (by first | omega | (intros; omega) | (intros; exact And.intro (by assumption) (by omega)) | grind) ?_)
    refine DoL.callg true 1242 rfl rfl rfl rfl rfl (by simp [go_sem] <;> omega) (fun _ => hF) rfl (by first | exact .inl rfl | exact .inr rfl) rfl ?_
    simp [go_sem]
    repeat (refine And.intro (by first | omega | (intros; omega) | (intros; exact And.intro (by assumption) (by omega)) | grind) ?_)
    refine DoL.callg true 1250 rfl rfl rfl rfl rfl (by simp [go_sem] <;> omega) (fun _ => hN) rfl (by first | exact .inl rfl | exact .inr rfl) rfl ?_
    simp [go_sem]
    repeat (refine And.intro (by first | omega | (intros; omega) | (intros; exact And.intro (by assumption) (by omega)) | grind) ?_)
    refine DoL.callg true 1254 rfl rfl rfl rfl rfl (by simp [go_sem] <;> omega) (fun _ => hN) rfl (by first | exact .inl rfl | exact .inr rfl) rfl ?_
    simp [go_sem]
    repeat (refine And.intro (by first | omega | (intros; omega) | (intros; exact And.intro (by assumption) (by omega)) | grind) ?_)
    refine DoL.callg true 1261 rfl rfl rfl rfl rfl (by simp [go_sem] <;> omega) (fun _ => hF) rfl (by first | exact .inl rfl | exact .inr rfl) rfl ?_
    simp [go_sem]
    refine DoL.callg true 1264 rfl rfl rfl rfl rfl (by simp [go_sem] <;> omega) (fun _ => awake20_does) rfl (by first | exact .inl rfl | exact .inr rfl) rfl ?_
    simp [go_sem]
    apply k13_; clear k13_
    refine Do.ret ?_
    simp [endQ, rets, ret1, go_sem]
    repeat (refine And.intro (by first | omega | (intros; omega) | (intros; exact And.intro (by assumption) (by omega)) | grind) ?_)
    exact TLe.refl _
end Go.Proofs.YtokgalpflooegaaDoor
/- The row of ConvertLarge. No condition. -/
namespace Go.Proofs.YtokgalpflooegaaDoor
set_option linter.unusedVariables false
set_option linter.unusedSimpArgs false
open Go.ChangeShapes Go.WideShapes Go.ChangeAt Go.RowKit
set_option maxRecDepth 100000
namespace convertLarge
set_option maxRecDepth 100000 in
theorem lifted (os : Os) (started : os.Started) (H : Type) (enc : TypeId × Value → H) :
    ReturnsInHanded {} Tryd.checked os 7 .any (fun w args => (Rows.convertLargeSpec.pre enc Tryd.prog Tryd.f7 [] false w args ∧ laidMetH Tryd.prog laidL w) ∧ sizedMet enc Tryd.prog Tryd.f7 (OpenSpec.ofChange Rows.convertLargeSpec) false w args)
      (Rows.convertLargeSpec.post enc Tryd.prog Tryd.f7 false true false false) := by
  refine returnsInHanded_of_change_and (C := Tryd.checked) (X := fun w _ => laidMetH Tryd.prog laidL w) (fun _ _ _ hh h => h.of_heap hh) own started (by kernel_rfl) Tryd.func7
    (ChangeSpec.witness_shaped (enc := enc) (C := Tryd.checked) (os := os) (X := fun w _ => laidMetH Tryd.prog laidL w) false (World.doorLaid Tryd.prog doorN os) #[.agg #[.int .i64 0, .int .i64 0], .agg #[.int .i64 0, .int .i64 0], .int .i64 0, .agg #[.int .i64 0, .bool false, .int .i64 0, .slice Option.none 0 0]] doorK rfl (World.shaped_of_RefB (by kernel_rfl) (by kernel_rfl)) (by kernel_rfl) (by kernel_rfl) (by kernel_rfl) (door_met os _)) ?_
  intro W base args ds gs before hval0 hW _ _ hL _
  have hval : ∀ (j : Nat) t v, Tryd.f7.params[j]? = some t → args[j]? = some v → Value.okWide Tryd.prog W .any base t v := hval0
  have hW' := hW
  obtain ⟨p, q, hA0, hV, rfl, hfz, hnd⟩ := hW
  have hA : DataW.TrodAll enc Tryd.prog W 0 (fun _ => true) true Tryd.f7.params.toList args.toList ds p := hA0
  rw [Tryd.params7] at hA hval
  obtain ⟨v0, vs0, d0, ds0, p0, q0, hargs, rfl, rfl, h0, r0⟩ := trodAll_cons hA
  obtain ⟨v1, vs1, d1, ds1, p1, q1, rfl, rfl, rfl, h1, r1⟩ := trodAll_cons r0
  obtain ⟨v2, vs2, d2, ds2, p2, q2, rfl, rfl, rfl, h2, r2⟩ := trodAll_cons r1
  obtain ⟨v3, vs3, d3, ds3, p3, q3, rfl, rfl, rfl, h3, r3⟩ := trodAll_cons r2
  obtain ⟨rfl, rfl, rfl⟩ := trodAll_nil r3
  obtain rfl : args = #[v0, v1, v2, v3] := by cases args; simp_all
  obtain ⟨rfl, rfl⟩ := trodVars_none hV
  have lt0 : ∀ x ∈ p0, x.block < W.heap.size := by obtain ⟨m, hm⟩ := h0; exact DataW.trod_lt m _ _ _ hm
  have lt1 : ∀ x ∈ p1, x.block < W.heap.size := by obtain ⟨m, hm⟩ := h1; exact DataW.trod_lt m _ _ _ hm
  have lt2 : ∀ x ∈ p2, x.block < W.heap.size := by obtain ⟨m, hm⟩ := h2; exact DataW.trod_lt m _ _ _ hm
  have lt3 : ∀ x ∈ p3, x.block < W.heap.size := by obtain ⟨m, hm⟩ := h3; exact DataW.trod_lt m _ _ _ hm
  obtain ⟨f, fp, a0⟩ := arg_fm (hval 0 _ v0 rfl rfl) h0
  obtain ⟨g, gq, a1⟩ := arg_fm (hval 1 _ v1 rfl rfl) h1
  have k2 := h2
  obtain ⟨r, rfl, rfl, rfl, w2⟩ := open_int Tryd.underlying24 (hval 2 _ v2 rfl rfl) h2
  obtain ⟨x, wx, ex, a3⟩ := arg_fl (hval 3 _ v3 rfl rfl) h3
  clear hA0 hval0
  refine (law_calls (vals := [v0, v1, .int .i64 r, v3]) (ConvertLarge_does (f := f) (p := fp) (g := g) (q := gq) (r := r) wx ex) Tryd.func7 rfl rfl (of_laid hL) (.cons a0 (.cons a1 (.cons rfl (.cons a3 .nil))))).mono fun e W' ⟨he, bel⟩ => ?_
  subst he
  exact ⟨_, rfl, _, _, _, [], _, [], hW', trodAll_mk1 (shut_bool Tryd.underlying4 _), (trodAll_cons_mk (Below.trod laidOut (by kernel_rfl) (of_decide_eq_true (by kernel_rfl)) h0 bel lt0) (trodAll_cons_mk (Below.trod laidOut (by kernel_rfl) (of_decide_eq_true (by kernel_rfl)) h1 bel lt1) (trodAll_cons_mk (Below.trod laidOut (by kernel_rfl) (of_decide_eq_true (by kernel_rfl)) k2 bel lt2) (trodAll_mk1 (Below.trod laidOut (by kernel_rfl) (of_decide_eq_true (by kernel_rfl)) h3 bel lt3))))), rfl, bel.frame _, fun h => by cases h⟩
theorem over : Rows.convertLargeRow.holds Tryd.pinned (OpenSpec.ofChange Rows.convertLargeSpec) :=
  OpenClaim.holds_of_wide 7 Tryd.f7 rfl rfl rfl rfl rfl rfl rfl ⟨rfl, rfl, rfl, rfl, rfl⟩ rfl rfl rfl rfl rfl (by kernel_rfl) Tryd.func7 (by kernel_rfl)
    (of_decide_eq_true (by kernel_rfl)) (by unfold Func.isWrapper; first | (rw [if_pos (by decide +kernel)]; kernel_rfl) | (rw [if_neg (by decide +kernel)]; exact ⟨rfl, rfl⟩))
    (fun os started H enc _ => lifted os started H enc)
end convertLarge
end Go.Proofs.YtokgalpflooegaaDoor
/- The law ConvertLarge holds, for every input: numbers with too many words give ErrSize, whatever else is wrong. Conditions: the two listed package variables hold what the program's text lays (tied by the card). -/
namespace Go.Proofs.YtokgalpflooegaaDoor
set_option linter.unusedVariables false
set_option linter.unusedSimpArgs false
open Go
theorem convertLarge_holds : Rows.ConvertLargeCardSaid :=
  Claim7.holds_tied_plain_at .later [] [.data, .funcs] true Rows.convertLargeCard.stood.harness false
    convertLarge.over (fun _ h => by cases h) (by kernel_rfl) (fun _ h => by cases h) convertLarge_row_tie rfl ⟨rfl, rfl⟩ (by kernel_rfl) rfl
    (fun f fn hf hfn => by
      obtain rfl : f = 7 := Option.some.inj ((show Tryd.prog.funcNamed "reckoner/reckonerlaw20.ConvertLarge" = some 7 by kernel_rfl).symm.trans hf) |>.symm
      obtain rfl : fn = Tryd.f7 := (Option.some.inj (Tryd.func7.symm.trans hfn)).symm
      exact ⟨by kernel_rfl, fun j t ht => by
        have hm : t ∈ Tryd.f7.params.toList := by simpa using Array.mem_of_getElem? ht
        have hall : (Tryd.f7.params.toList.all fun u => !Tryd.prog.wantsStandIn u) = true := by kernel_rfl
        exact (show Tryd.prog.wantsStandIn t = false by simpa using List.all_eq_true.1 hall t hm)⟩)
    (by kernel_rfl)
#print axioms convertLarge_holds
end Go.Proofs.YtokgalpflooegaaDoor
