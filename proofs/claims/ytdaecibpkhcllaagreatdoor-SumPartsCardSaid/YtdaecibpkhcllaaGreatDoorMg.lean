/- The canonical floats of a list. No condition. The canonical floats of a call's arguments. No condition. What a sum is made of, and how a term is put in. No condition. Values that stand for an iterator over rows, and for a pointer to cells; a range over rows. No condition. What slices.Values and sum.gather compute. No condition. Sums, rounded. No condition. Total, Add and Sub. No condition. Digits of 32 bits, words of 64 bits. No condition. The digits of the reference. No condition. -/
import Derived.Test.YtdaecibpkhcllaaGreatDoorMf
import Derived.Test.YtdaecibpkhcllaaGreatDoorMd
import Derived.RangeFuncNested
import Derived.RangeFuncLeaves
import Derived.RangeFuncCalls
import Derived.Shelf.Abstract
import Derived.OwnWalkIn
import Derived.TacticsInMore
import Derived.LoopNIn
import Derived.LoopIn
import Derived.Shelf.RegionOpen
/- The canonical floats of a list. No condition. -/
namespace Go.Proofs.YtdaecibpkhcllaaGreatDoor
set_option linter.unusedVariables false
set_option linter.unusedSimpArgs false
set_option maxHeartbeats 2000000
abbrev Flt.cs (x : Flt) : List Ce := [.i .i64 x.k, .b x.n, .i .i64 x.e, .w false (nat x.v)]
/-- The canonical floats. -/
def heldL (f p : Int) (l : List Fla) : List Flt := l.map fun x => (holdsP f p x.flt).1
theorem Floats_own {f p : Int} {l : List Fla} (hl : l.length < 1099511627776) (h : ∀ x ∈ l, x.m.length ≤ 4096) (hf : fmOk f p = true) (ho : ∀ x ∈ l, x.Ok) (hh : allHold f p l = true) : DoesO Tryz.prog Gv 84 [Fm f p, Rows l] 4 ((heldL f p l).map Flt.cs) [.c (.i .i64 0)] := by
  refine DoesO.of (nt := 48) Tryz.func84 rfl rfl rfl (by simp) rfl (by simp) ?_
  simp only [argTm, PV.ext, Ce.ext, exts]
  refine Do.seqk fun _ k1_ => ?_
  refine Do.region [1,2] true ?_
  simp [go_sem]
  apply k1_; clear k1_
  refine Do.seqk fun _ k2_ => ?_
  refine Do.seqk fun _ k3_ => ?_
  refine Do.region [1,2,14,15,16] true ?_
  simp [go_sem]
  repeat (refine And.intro (by first | omega | (intros; omega) | (intros; exact And.intro (by assumption) (by omega)) | grind) ?_)
  apply k3_; clear k3_
  refine Do.block ?_
  refine Do.loopF [1,2,14,15,16] (fun (i : Nat) => [(16, .int .i64 i)]) (fun (i : Nat) => []) (fun (i : Nat) => i ≤ l.length) (fun (i : Nat) => l.length - i) (0) (fun _ => by first | (simp [go_sem, mixS]; done) | (simp [go_sem, mixS]; rfl)) (St.le_of (by first | rfl | simp [keep]) (by first | rfl | simp [keep])) (Nat.zero_le _) ?_
  intro i hi
  refine Do.seqk fun _ k4_ => ?_
  refine Do.region [1,2,14,15,16,17] true ?_
  simp [go_sem]
  apply k4_; clear k4_
  refine Do.seqk fun _ k5_ => ?_
  refine Do.cond [1,2,14,15,16] rfl (fun h2 => ?_) (fun h2 => ?_) <;> simp [go_sem] at h2 ⊢
  · obtain ⟨x, hx⟩ : ∃ x, l[i]? = some x := ⟨_, List.getElem?_eq_getElem h2⟩
    have hxm : x.m.length ≤ 4096 := h x (List.mem_of_getElem? hx)
    refine Do.skip ?_
    simp [go_sem]
    apply k5_; clear k5_
    refine Do.seqk fun _ k6_ => ?_
    refine Do.block ?_
    refine Do.seqk fun _ k7_ => ?_
    refine Do.region [1,2,7,14,15,16] true ?_
    simp [go_sem, hx]
    repeat (refine And.intro (by first | omega | (intros; omega) | (intros; exact And.intro (by assumption) (by omega)) | grind) ?_)
    apply k7_; clear k7_
    refine Do.seqk fun _ k8_ => ?_
    refine Do.region [1,2,14,15,16,21] true ?_
    simp [go_sem, hx]
    repeat (refine And.intro (by first | omega | (intros; omega) | (intros; exact And.intro (by assumption) (by omega)) | grind) ?_)
    refine DoL.call true 402 rfl rfl rfl rfl (by first | exact trivial | omega | (simp; done) | (simp; omega)) (large_does (m := x.m) (by omega)) rfl (by first | exact .inl rfl | exact .inr rfl) rfl ?_
    simp [go_sem, hx]
    apply k8_; clear k8_
    refine Do.cond [1,2,14,15,16] rfl (fun h3 => ?_) (fun h3 => ?_) <;> simp [go_sem, hx] at h3 ⊢
    · omega
    · refine Do.skip ?_
      simp [go_sem]
      apply k6_; clear k6_
      refine Do.region [1,2,14,15,16] true ?_
      simp [go_sem, hx]
      repeat (refine And.intro (by first | omega | (intros; omega) | (intros; exact And.intro (by assumption) (by omega)) | grind) ?_)
      refine ⟨i + 1, St.le_of (by first | rfl | simp [keep]) (by first | rfl | simp [keep]), by omega, by first | (simp; done) | (simp; omega)⟩
  · refine Do.exit ?_
    simp [go_sem]
    apply k2_; clear k2_
    refine Do.seqk fun _ k9_ => ?_
    refine Do.seqk fun _ k10_ => ?_
    refine Do.region [1,2,8] true ?_
    simp [go_sem]
    repeat (refine And.intro (by first | omega | (intros; omega) | (intros; exact And.intro (by assumption) (by omega)) | grind) ?_)
    refine DoL.call true 702 rfl rfl rfl rfl (by first | exact trivial | omega | (simp; done) | (simp; omega)) (Check_does) rfl (by first | exact .inl rfl | exact .inr rfl) rfl ?_
    simp [go_sem]
    rw [hf]
    apply k10_; clear k10_
    refine Do.seqk fun _ k11_ => ?_
    refine Do.region [1,2,8,26] true ?_
    simp [go_sem]
    apply k11_; clear k11_
    refine Do.cond [1,2,8] rfl (fun h3 => ?_) (fun h3 => ?_) <;> simp [go_sem] at h3 ⊢
    refine Do.skip ?_
    simp [go_sem]
    apply k9_; clear k9_
    refine Do.seqk fun _ k12_ => ?_
    refine Do.region [1,2,9] true ?_
    simp [go_sem]
    apply k12_; clear k12_
    refine Do.seqk fun _ k13_ => ?_
    refine Do.seqk fun _ k14_ => ?_
    refine Do.region [2,9,28,29,30] true ?_
    simp [go_sem]
    repeat (refine And.intro (by first | omega | (intros; omega) | (intros; exact And.intro (by assumption) (by omega)) | grind) ?_)
    apply k14_; clear k14_
    refine Do.block ?_
    refine Do.own 9 1000 4 rfl rfl (by decide) ?_
    simp [go_sem]
    refine Do.loopF [2,9,28,29,30] (fun (i : Nat) => [(9, .v (.c (.r 1000 i))), (30, .int .i64 i)]) (fun (i : Nat) => [(1000, .sr 4 (((heldL f p l).map Flt.cs).take i))]) (fun (i : Nat) => i ≤ l.length) (fun (i : Nat) => l.length - i) (0) (fun _ => by first | (simp [go_sem, mixS]; done) | (simp [go_sem, mixS]; rfl)) (St.le_of (by first | rfl | simp [keep]) (by first | rfl | simp [keep])) (Nat.zero_le _) ?_
    intro i hi
    refine Do.seqk fun _ k15_ => ?_
    refine Do.region [2,9,28,29,30,31] true ?_
    simp [go_sem]
    apply k15_; clear k15_
    refine Do.seqk fun _ k16_ => ?_
    refine Do.cond [2,9,28,29,30] rfl (fun h2 => ?_) (fun h2 => ?_) <;> simp [go_sem] at h2 ⊢
    · obtain ⟨x, hx⟩ : ∃ x, l[i]? = some x := ⟨_, List.getElem?_eq_getElem h2⟩
      have hxo := ho x (List.mem_of_getElem? hx)
      have hb : (holdsP f p x.flt).2 = true := by simpa using List.all_eq_true.1 hh x (List.mem_of_getElem? hx)
      have hdo : Does Tryz.prog Gv 127 [Fm f p, Fl x.k x.n x.e x.m] (.t [(holdsP f p x.flt).1.pv, .c (.b true)]) := hb ▸ holds_does hf hxo.sh hxo.ws hxo.e
      have hll : (heldL f p l).length = l.length := by simp [heldL]
      have hmin : min i l.length = i := by omega
      have hgx : (heldL f p l)[i]? = some (holdsP f p x.flt).1 := by simp [heldL, hx]
      refine Do.skip ?_
      simp [go_sem]
      apply k16_; clear k16_
      refine Do.seqk fun _ k17_ => ?_
      refine Do.block ?_
      refine Do.seqk fun _ k18_ => ?_
      refine Do.region [2,9,11,28,29,30] true ?_
      simp [go_sem, hx, hll, hmin]
      repeat (refine And.intro (by first | omega | (intros; omega) | (intros; exact And.intro (by assumption) (by omega)) | grind) ?_)
      apply k18_; clear k18_
      refine Do.seqk fun _ k19_ => ?_
      refine Do.region [2,9,12,13,28,29,30] true ?_
      simp [go_sem, hx, hll, hmin]
      repeat (refine And.intro (by first | omega | (intros; omega) | (intros; exact And.intro (by assumption) (by omega)) | grind) ?_)
      refine DoL.call true 1403 rfl rfl rfl rfl (by first | exact trivial | omega | (simp; done) | (simp; omega)) (hdo) rfl (by first | exact .inl rfl | exact .inr rfl) rfl ?_
      simp [go_sem, hx, hll, hmin]
      repeat (refine And.intro (by first | omega | (intros; omega) | (intros; exact And.intro (by assumption) (by omega)) | grind) ?_)
      apply k19_; clear k19_
      refine Do.seqk fun _ k20_ => ?_
      refine Do.seqk fun _ k21_ => ?_
      refine Do.region [2,9,12,28,29,30,41] true ?_
      simp [go_sem, hx, hll, hmin]
      repeat (refine And.intro (by first | omega | (intros; omega) | (intros; exact And.intro (by assumption) (by omega)) | grind) ?_)
      apply k21_; clear k21_
      refine Do.cond [2,9,12,28,29,30] rfl (fun h3 => ?_) (fun h3 => ?_) <;> simp [go_sem, hx, hll, hmin] at h3 ⊢
      refine Do.skip ?_
      simp [go_sem]
      apply k20_; clear k20_
      refine Do.region [2,9,28,29,30] true ?_
      simp [go_sem, hx, hll, hmin]
      repeat (refine And.intro (by first | omega | (intros; omega) | (intros; exact And.intro (by assumption) (by omega)) | grind) ?_)
      apply k17_; clear k17_
      refine Do.region [2,9,28,29,30] true ?_
      simp [go_sem, hx, hll, hmin]
      repeat (refine And.intro (by first | omega | (intros; omega) | (intros; exact And.intro (by assumption) (by omega)) | grind) ?_)
      refine ⟨i + 1, St.le_of rfl (by simp [keep, List.take_add_one, hgx]), by omega, by simp; omega⟩
    · refine Do.exit ?_
      simp [go_sem]
      apply k13_; clear k13_
      refine Do.seqk fun _ k22_ => ?_
      refine Do.region [4,5] true ?_
      simp [go_sem]
      apply k22_; clear k22_
      refine Do.ret ?_
      simp [endO, rets, ret1, go_sem]
      repeat (refine And.intro (by first | omega | (intros; omega) | (intros; exact And.intro (by assumption) (by omega)) | grind) ?_)
      have hll : (heldL f p l).length = l.length := by simp [heldL]
      have e : i = l.length := by omega
      refine ⟨by rw [hll]; exact e, ?_⟩
      rw [List.take_of_length_le (by simp [hll]; omega)]
theorem Floats_bad {f p : Int} {l : List Fla} (hl : l.length < 1099511627776) (h : ∀ x ∈ l, x.m.length ≤ 4096) (hf : fmOk f p = true) (ho : ∀ x ∈ l, x.Ok) (hh : allHold f p l = false) : Does Tryz.prog Gv 84 [Fm f p, Rows l] (.t [.c .z, .c (.i .i64 151)]) := by
  refine Does.of (nt := 48) Tryz.func84 rfl rfl rfl (by simp) ?_
  simp only [argTm, PV.ext, Ce.ext]
  refine Do.seqk fun _ k1_ => ?_
  refine Do.region [1,2] true ?_
  simp [go_sem]
  apply k1_; clear k1_
  refine Do.seqk fun _ k2_ => ?_
  refine Do.seqk fun _ k3_ => ?_
  refine Do.region [1,2,14,15,16] true ?_
  simp [go_sem]
  repeat (refine And.intro (by first | omega | (intros; omega) | (intros; exact And.intro (by assumption) (by omega)) | grind) ?_)
  apply k3_; clear k3_
  refine Do.block ?_
  refine Do.loopF [1,2,14,15,16] (fun (i : Nat) => [(16, .int .i64 i)]) (fun (i : Nat) => []) (fun (i : Nat) => i ≤ l.length) (fun (i : Nat) => l.length - i) (0) (fun _ => by first | (simp [go_sem, mixS]; done) | (simp [go_sem, mixS]; rfl)) (St.le_of (by first | rfl | simp [keep]) (by first | rfl | simp [keep])) (Nat.zero_le _) ?_
  intro i hi
  refine Do.seqk fun _ k4_ => ?_
  refine Do.region [1,2,14,15,16,17] true ?_
  simp [go_sem]
  apply k4_; clear k4_
  refine Do.seqk fun _ k5_ => ?_
  refine Do.cond [1,2,14,15,16] rfl (fun h2 => ?_) (fun h2 => ?_) <;> simp [go_sem] at h2 ⊢
  · obtain ⟨x, hx⟩ : ∃ x, l[i]? = some x := ⟨_, List.getElem?_eq_getElem h2⟩
    have hxm : x.m.length ≤ 4096 := h x (List.mem_of_getElem? hx)
    refine Do.skip ?_
    simp [go_sem]
    apply k5_; clear k5_
    refine Do.seqk fun _ k6_ => ?_
    refine Do.block ?_
    refine Do.seqk fun _ k7_ => ?_
    refine Do.region [1,2,7,14,15,16] true ?_
    simp [go_sem, hx]
    repeat (refine And.intro (by first | omega | (intros; omega) | (intros; exact And.intro (by assumption) (by omega)) | grind) ?_)
    apply k7_; clear k7_
    refine Do.seqk fun _ k8_ => ?_
    refine Do.region [1,2,14,15,16,21] true ?_
    simp [go_sem, hx]
    repeat (refine And.intro (by first | omega | (intros; omega) | (intros; exact And.intro (by assumption) (by omega)) | grind) ?_)
    refine DoL.call true 402 rfl rfl rfl rfl (by first | exact trivial | omega | (simp; done) | (simp; omega)) (large_does (m := x.m) (by omega)) rfl (by first | exact .inl rfl | exact .inr rfl) rfl ?_
    simp [go_sem, hx]
    apply k8_; clear k8_
    refine Do.cond [1,2,14,15,16] rfl (fun h3 => ?_) (fun h3 => ?_) <;> simp [go_sem, hx] at h3 ⊢
    · omega
    · refine Do.skip ?_
      simp [go_sem]
      apply k6_; clear k6_
      refine Do.region [1,2,14,15,16] true ?_
      simp [go_sem, hx]
      repeat (refine And.intro (by first | omega | (intros; omega) | (intros; exact And.intro (by assumption) (by omega)) | grind) ?_)
      refine ⟨i + 1, St.le_of (by first | rfl | simp [keep]) (by first | rfl | simp [keep]), by omega, by first | (simp; done) | (simp; omega)⟩
  · refine Do.exit ?_
    simp [go_sem]
    apply k2_; clear k2_
    refine Do.seqk fun _ k9_ => ?_
    refine Do.seqk fun _ k10_ => ?_
    refine Do.region [1,2,8] true ?_
    simp [go_sem]
    repeat (refine And.intro (by first | omega | (intros; omega) | (intros; exact And.intro (by assumption) (by omega)) | grind) ?_)
    refine DoL.call true 702 rfl rfl rfl rfl (by first | exact trivial | omega | (simp; done) | (simp; omega)) (Check_does) rfl (by first | exact .inl rfl | exact .inr rfl) rfl ?_
    simp [go_sem]
    rw [hf]
    apply k10_; clear k10_
    refine Do.seqk fun _ k11_ => ?_
    refine Do.region [1,2,8,26] true ?_
    simp [go_sem]
    apply k11_; clear k11_
    refine Do.cond [1,2,8] rfl (fun h3 => ?_) (fun h3 => ?_) <;> simp [go_sem] at h3 ⊢
    refine Do.skip ?_
    simp [go_sem]
    apply k9_; clear k9_
    refine Do.seqk fun _ k12_ => ?_
    refine Do.region [1,2,9] true ?_
    simp [go_sem]
    apply k12_; clear k12_
    refine Do.seqk fun _ k13_ => ?_
    refine Do.seqk fun _ k14_ => ?_
    refine Do.region [2,9,28,29,30] true ?_
    simp [go_sem]
    repeat (refine And.intro (by first | omega | (intros; omega) | (intros; exact And.intro (by assumption) (by omega)) | grind) ?_)
    apply k14_; clear k14_
    refine Do.block ?_
    refine Do.own 9 1000 4 rfl rfl (by decide) ?_
    simp [go_sem]
    refine Do.loopF [2,9,28,29,30] (fun (i : Nat) => [(9, .v (.c (.r 1000 i))), (30, .int .i64 i)]) (fun (i : Nat) => [(1000, .sr 4 (((heldL f p l).map Flt.cs).take i))]) (fun (i : Nat) => i ≤ l.length ∧ ∀ j, j < i → ∀ x, l[j]? = some x → (holdsP f p x.flt).2 = true) (fun (i : Nat) => l.length - i) (0) (fun _ => by first | (simp [go_sem, mixS]; done) | (simp [go_sem, mixS]; rfl)) (St.le_of (by first | rfl | simp [keep]) (by first | rfl | simp [keep])) (⟨Nat.zero_le _, fun j hj => absurd hj (Nat.not_lt_zero j)⟩) ?_
    rintro i ⟨hi, hz⟩
    refine Do.seqk fun _ k15_ => ?_
    refine Do.region [2,9,28,29,30,31] true ?_
    simp [go_sem]
    apply k15_; clear k15_
    refine Do.seqk fun _ k16_ => ?_
    refine Do.cond [2,9,28,29,30] rfl (fun h2 => ?_) (fun h2 => ?_) <;> simp [go_sem] at h2 ⊢
    · obtain ⟨x, hx⟩ : ∃ x, l[i]? = some x := ⟨_, List.getElem?_eq_getElem h2⟩
      have hxo := ho x (List.mem_of_getElem? hx)
      have hdo : Does Tryz.prog Gv 127 [Fm f p, Fl x.k x.n x.e x.m] (.t [(holdsP f p x.flt).1.pv, .c (.b (holdsP f p x.flt).2)]) := holds_does hf hxo.sh hxo.ws hxo.e
      have hll : (heldL f p l).length = l.length := by simp [heldL]
      have hmin : min i l.length = i := by omega
      have hgx : (heldL f p l)[i]? = some (holdsP f p x.flt).1 := by simp [heldL, hx]
      refine Do.skip ?_
      simp [go_sem]
      apply k16_; clear k16_
      refine Do.seqk fun _ k17_ => ?_
      refine Do.block ?_
      refine Do.seqk fun _ k18_ => ?_
      refine Do.region [2,9,11,28,29,30] true ?_
      simp [go_sem, hx, hll, hmin]
      repeat (refine And.intro (by first | omega | (intros; omega) | (intros; exact And.intro (by assumption) (by omega)) | grind) ?_)
      apply k18_; clear k18_
      refine Do.seqk fun _ k19_ => ?_
      refine Do.region [2,9,12,13,28,29,30] true ?_
      simp [go_sem, hx, hll, hmin]
      repeat (refine And.intro (by first | omega | (intros; omega) | (intros; exact And.intro (by assumption) (by omega)) | grind) ?_)
      refine DoL.call true 1403 rfl rfl rfl rfl (by first | exact trivial | omega | (simp; done) | (simp; omega)) (hdo) rfl (by first | exact .inl rfl | exact .inr rfl) rfl ?_
      simp [go_sem, hx, hll, hmin]
      repeat (refine And.intro (by first | omega | (intros; omega) | (intros; exact And.intro (by assumption) (by omega)) | grind) ?_)
      apply k19_; clear k19_
      refine Do.seqk fun _ k20_ => ?_
      refine Do.seqk fun _ k21_ => ?_
      refine Do.region [2,9,12,28,29,30,41] true ?_
      simp [go_sem, hx, hll, hmin]
      repeat (refine And.intro (by first | omega | (intros; omega) | (intros; exact And.intro (by assumption) (by omega)) | grind) ?_)
      apply k21_; clear k21_
      refine Do.cond [2,9,12,28,29,30] rfl (fun h3 => ?_) (fun h3 => ?_) <;> simp [go_sem, hx, hll, hmin] at h3 ⊢
      · refine Do.seqk fun _ k22_ => ?_
        refine Do.region [4,5] true ?_
        simp [go_sem, hx, hll, hmin]
        apply k22_; clear k22_
        refine Do.ret ?_
        simp [endQ, rets, ret1, go_sem, hx, hll, hmin]
        repeat (refine And.intro (by first | omega | (intros; omega) | (intros; exact And.intro (by assumption) (by omega)) | grind) ?_)
        exact TLe.refl _
      · refine Do.skip ?_
        simp [go_sem]
        apply k20_; clear k20_
        refine Do.region [2,9,28,29,30] true ?_
        simp [go_sem, hx, hll, hmin]
        repeat (refine And.intro (by first | omega | (intros; omega) | (intros; exact And.intro (by assumption) (by omega)) | grind) ?_)
        apply k17_; clear k17_
        refine Do.region [2,9,28,29,30] true ?_
        simp [go_sem, hx, hll, hmin]
        repeat (refine And.intro (by first | omega | (intros; omega) | (intros; exact And.intro (by assumption) (by omega)) | grind) ?_)
        refine ⟨i + 1, St.le_of rfl (by simp [keep, List.take_add_one, hgx]), ⟨by omega, ?_⟩, by simp; omega⟩
        intro j hj y hy
        by_cases e : j = i
        · subst e; rw [hx] at hy; injection hy with hy; subst hy; exact h3
        · exact hz j (by omega) y hy
    · exfalso
      have e : i = l.length := by omega
      have : allHold f p l = true := by
        rw [allHold, List.all_eq_true]
        intro x hx
        obtain ⟨j, hj, e2⟩ := List.getElem_of_mem hx
        exact hz j (by omega) x (by rw [List.getElem?_eq_getElem hj, e2])
      rw [hh] at this; cases this
end Go.Proofs.YtdaecibpkhcllaaGreatDoor
/- The canonical floats of a call's arguments. No condition. -/
namespace Go.Proofs.YtdaecibpkhcllaaGreatDoor
set_option linter.unusedVariables false
set_option linter.unusedSimpArgs false
set_option maxHeartbeats 2000000
/-- The error of a call's arguments. -/
def argsE (f p r : Int) (b : Bool) (l : List Fla) : Int :=
  if anyLarge l then 2 else if (decide (0 ≤ r) && decide (r ≤ 4) && !b) = false then 1 else if fmOk f p = false then 150 else if allHold f p l = false then 151 else 0
theorem notLarge {l : List Fla} (h : anyLarge l = false) : ∀ x ∈ l, x.m.length ≤ 4096 := fun x hx => by
  simp only [anyLarge, List.any_eq_false, decide_eq_true_eq] at h
  have := h x hx
  omega
theorem Args_rest {f p r e : Int} {b : Bool} {l : List Fla} (hl : l.length < 1099511627776) (h : ∀ x ∈ l, x.m.length ≤ 4096) (h0 : 0 ≤ r) (h4 : r ≤ 4) (hb : b = false) (hD : Does Tryz.prog Gv 84 [Fm f p, Rows l] (.t [.c .z, .c (.i .i64 e)])) : Does Tryz.prog Gv 48 [Fm f p, .c (.i .i64 r), .c (.b b), Rows l] (.t [.c .z, .c (.i .i64 e)]) := by
  subst hb
  refine Does.of (nt := 34) Tryz.func48 rfl rfl rfl (by simp) ?_
  simp only [argTm, PV.ext, Ce.ext]
  refine Do.seqk fun _ k1_ => ?_
  refine Do.region [1,2,3,4] true ?_
  simp [go_sem]
  apply k1_; clear k1_
  refine Do.seqk fun _ k2_ => ?_
  refine Do.seqk fun _ k3_ => ?_
  refine Do.region [1,2,3,4,12,13,14] true ?_
  simp [go_sem]
  repeat (refine And.intro (by first | omega | (intros; omega) | (intros; exact And.intro (by assumption) (by omega)) | grind) ?_)
  apply k3_; clear k3_
  refine Do.block ?_
  refine Do.loopF [1,2,3,4,12,13,14] (fun (i : Nat) => [(14, .int .i64 i)]) (fun (i : Nat) => []) (fun (i : Nat) => i ≤ l.length) (fun (i : Nat) => l.length - i) (0) (fun _ => by first | (simp [go_sem, mixS]; done) | (simp [go_sem, mixS]; rfl)) (St.le_of (by first | rfl | simp [keep]) (by first | rfl | simp [keep])) (Nat.zero_le _) ?_
  intro i hi
  refine Do.seqk fun _ k4_ => ?_
  refine Do.region [1,2,3,4,12,13,14,15] true ?_
  simp [go_sem]
  apply k4_; clear k4_
  refine Do.seqk fun _ k5_ => ?_
  refine Do.cond [1,2,3,4,12,13,14] rfl (fun h2 => ?_) (fun h2 => ?_) <;> simp [go_sem] at h2 ⊢
  · obtain ⟨x, hx⟩ : ∃ x, l[i]? = some x := ⟨_, List.getElem?_eq_getElem h2⟩
    have hxm : x.m.length ≤ 4096 := h x (List.mem_of_getElem? hx)
    refine Do.skip ?_
    simp [go_sem]
    apply k5_; clear k5_
    refine Do.seqk fun _ k6_ => ?_
    refine Do.block ?_
    refine Do.seqk fun _ k7_ => ?_
    refine Do.region [1,2,3,4,11,12,13,14] true ?_
    simp [go_sem, hx]
    repeat (refine And.intro (by first | omega | (intros; omega) | (intros; exact And.intro (by assumption) (by omega)) | grind) ?_)
    apply k7_; clear k7_
    refine Do.seqk fun _ k8_ => ?_
    refine Do.region [1,2,3,4,12,13,14,21] true ?_
    simp [go_sem, hx]
    repeat (refine And.intro (by first | omega | (intros; omega) | (intros; exact And.intro (by assumption) (by omega)) | grind) ?_)
    apply k8_; clear k8_
    refine Do.cond [1,2,3,4,12,13,14] rfl (fun h3 => ?_) (fun h3 => ?_) <;> simp [go_sem, hx] at h3 ⊢
    · omega
    · refine Do.skip ?_
      simp [go_sem]
      apply k6_; clear k6_
      refine Do.region [1,2,3,4,12,13,14] true ?_
      simp [go_sem, hx]
      repeat (refine And.intro (by first | omega | (intros; omega) | (intros; exact And.intro (by assumption) (by omega)) | grind) ?_)
      refine ⟨i + 1, St.le_of (by first | rfl | simp [keep]) (by first | rfl | simp [keep]), by omega, by first | (simp; done) | (simp; omega)⟩
  · refine Do.exit ?_
    simp [go_sem]
    apply k2_; clear k2_
    refine Do.seqk fun _ k9_ => ?_
    refine Do.seqk fun _ k10_ => ?_
    refine Do.region [3,4,28] true ?_
    simp [go_sem]
    refine DoL.call true 702 rfl rfl rfl rfl (by first | exact trivial | omega | (simp; done) | (simp; omega)) (Right_does) rfl (by first | exact .inl rfl | exact .inr rfl) rfl ?_
    simp [go_sem]
    repeat (refine And.intro (by first | omega | (intros; omega) | (intros; exact And.intro (by assumption) (by omega)) | grind) ?_)
    apply k10_; clear k10_
    refine Do.cond [3,4] rfl (fun h3 => ?_) (fun h3 => ?_) <;> simp [go_sem] at h3 ⊢
    · omega
    · refine Do.skip ?_
      simp [go_sem]
      apply k9_; clear k9_
      refine Do.seqk fun _ k11_ => ?_
      refine Do.region [8,9] true ?_
      simp [go_sem]
      repeat (refine And.intro (by first | omega | (intros; omega) | (intros; exact And.intro (by assumption) (by omega)) | grind) ?_)
      refine DoL.call true 903 rfl rfl rfl rfl (by first | exact trivial | omega | (simp; done) | (simp; omega)) (hD) rfl (by first | exact .inl rfl | exact .inr rfl) rfl ?_
      simp [go_sem]
      apply k11_; clear k11_
      refine Do.ret ?_
      simp [endQ, rets, ret1, go_sem]
      repeat (refine And.intro (by first | omega | (intros; omega) | (intros; exact And.intro (by assumption) (by omega)) | grind) ?_)
      exact TLe.refl _
theorem Args_err {f p r : Int} {b : Bool} {l : List Fla} (hl : l.length < 1099511627776) (ho : ∀ x ∈ l, x.Ok) (h : argsE f p r b l ≠ 0) : Does Tryz.prog Gv 48 [Fm f p, .c (.i .i64 r), .c (.b b), Rows l] (.t [.c .z, .c (.i .i64 (argsE f p r b l))]) := by
  unfold argsE at h ⊢
  cases h1 : anyLarge l with
  | true => exact Args_size hl ho h1
  | false =>
    have hm := notLarge h1
    simp only [h1, Bool.false_eq_true, if_false] at h ⊢
    cases h2 : (decide (0 ≤ r) && decide (r ≤ 4) && !b) with
    | false => exact Args_arg hl hm h2
    | true =>
      simp only [h2, Bool.true_eq_false, if_false] at h ⊢
      simp only [Bool.and_eq_true, decide_eq_true_eq, Bool.not_eq_true'] at h2
      obtain ⟨⟨h0, h4⟩, hb⟩ := h2
      cases hf : fmOk f p with
      | false => exact Args_rest hl hm h0 h4 hb (Floats_fmt hl hm hf)
      | true =>
        simp only [hf, Bool.true_eq_false, if_false] at h ⊢
        cases hh : allHold f p l with
        | false => exact Args_rest hl hm h0 h4 hb (Floats_bad hl hm hf ho hh)
        | true => rw [hh] at h; exact absurd rfl h
theorem argsE_zero {f p r : Int} {b : Bool} {l : List Fla} (h : argsE f p r b l = 0) : (∀ x ∈ l, x.m.length ≤ 4096) ∧ 0 ≤ r ∧ r ≤ 4 ∧ b = false ∧ fmOk f p = true ∧ allHold f p l = true := by
  unfold argsE at h
  cases h1 : anyLarge l with
  | true => simp [h1] at h
  | false =>
    simp only [h1, Bool.false_eq_true, if_false] at h
    cases h2 : (decide (0 ≤ r) && decide (r ≤ 4) && !b) with
    | false => simp [h2] at h
    | true =>
      simp only [h2, Bool.true_eq_false, if_false] at h
      simp only [Bool.and_eq_true, decide_eq_true_eq, Bool.not_eq_true'] at h2
      cases hf : fmOk f p with
      | false => simp [hf] at h
      | true =>
        simp only [hf, Bool.true_eq_false, if_false] at h
        cases hh : allHold f p l with
        | false => simp [hh] at h
        | true => exact ⟨notLarge h1, h2.1.1, h2.1.2, h2.2, rfl, rfl⟩
theorem Args_own {f p r : Int} {b : Bool} {l : List Fla} (hl : l.length < 1099511627776) (ho : ∀ x ∈ l, x.Ok) (he : argsE f p r b l = 0) : DoesO Tryz.prog Gv 48 [Fm f p, .c (.i .i64 r), .c (.b b), Rows l] 4 ((heldL f p l).map Flt.cs) [.c (.i .i64 0)] := by
  obtain ⟨h, h0, h4, rfl, hf, hh⟩ := argsE_zero he
  have hD := Floats_own hl h hf ho hh
  generalize (heldL f p l).map Flt.cs = rows at *
  refine DoesO.of (nt := 34) Tryz.func48 rfl rfl rfl (by simp) rfl (by simp) ?_
  simp only [argTm, PV.ext, Ce.ext, exts]
  refine Do.seqk fun _ k1_ => ?_
  refine Do.region [1,2,3,4] true ?_
  simp [go_sem]
  apply k1_; clear k1_
  refine Do.seqk fun _ k2_ => ?_
  refine Do.seqk fun _ k3_ => ?_
  refine Do.region [1,2,3,4,12,13,14] true ?_
  simp [go_sem]
  repeat (refine And.intro (by first | omega | (intros; omega) | (intros; exact And.intro (by assumption) (by omega)) | grind) ?_)
  apply k3_; clear k3_
  refine Do.block ?_
  refine Do.loopF [1,2,3,4,12,13,14] (fun (i : Nat) => [(14, .int .i64 i)]) (fun (i : Nat) => []) (fun (i : Nat) => i ≤ l.length) (fun (i : Nat) => l.length - i) (0) (fun _ => by first | (simp [go_sem, mixS]; done) | (simp [go_sem, mixS]; rfl)) (St.le_of (by first | rfl | simp [keep]) (by first | rfl | simp [keep])) (Nat.zero_le _) ?_
  intro i hi
  refine Do.seqk fun _ k4_ => ?_
  refine Do.region [1,2,3,4,12,13,14,15] true ?_
  simp [go_sem]
  apply k4_; clear k4_
  refine Do.seqk fun _ k5_ => ?_
  refine Do.cond [1,2,3,4,12,13,14] rfl (fun h2 => ?_) (fun h2 => ?_) <;> simp [go_sem] at h2 ⊢
  · obtain ⟨x, hx⟩ : ∃ x, l[i]? = some x := ⟨_, List.getElem?_eq_getElem h2⟩
    have hxm : x.m.length ≤ 4096 := h x (List.mem_of_getElem? hx)
    refine Do.skip ?_
    simp [go_sem]
    apply k5_; clear k5_
    refine Do.seqk fun _ k6_ => ?_
    refine Do.block ?_
    refine Do.seqk fun _ k7_ => ?_
    refine Do.region [1,2,3,4,11,12,13,14] true ?_
    simp [go_sem, hx]
    repeat (refine And.intro (by first | omega | (intros; omega) | (intros; exact And.intro (by assumption) (by omega)) | grind) ?_)
    apply k7_; clear k7_
    refine Do.seqk fun _ k8_ => ?_
    refine Do.region [1,2,3,4,12,13,14,21] true ?_
    simp [go_sem, hx]
    repeat (refine And.intro (by first | omega | (intros; omega) | (intros; exact And.intro (by assumption) (by omega)) | grind) ?_)
    apply k8_; clear k8_
    refine Do.cond [1,2,3,4,12,13,14] rfl (fun h3 => ?_) (fun h3 => ?_) <;> simp [go_sem, hx] at h3 ⊢
    · omega
    · refine Do.skip ?_
      simp [go_sem]
      apply k6_; clear k6_
      refine Do.region [1,2,3,4,12,13,14] true ?_
      simp [go_sem, hx]
      repeat (refine And.intro (by first | omega | (intros; omega) | (intros; exact And.intro (by assumption) (by omega)) | grind) ?_)
      refine ⟨i + 1, St.le_of (by first | rfl | simp [keep]) (by first | rfl | simp [keep]), by omega, by first | (simp; done) | (simp; omega)⟩
  · refine Do.exit ?_
    simp [go_sem]
    apply k2_; clear k2_
    refine Do.seqk fun _ k9_ => ?_
    refine Do.seqk fun _ k10_ => ?_
    refine Do.region [3,4,28] true ?_
    simp [go_sem]
    refine DoL.call true 702 rfl rfl rfl rfl (by first | exact trivial | omega | (simp; done) | (simp; omega)) (Right_does) rfl (by first | exact .inl rfl | exact .inr rfl) rfl ?_
    simp [go_sem]
    repeat (refine And.intro (by first | omega | (intros; omega) | (intros; exact And.intro (by assumption) (by omega)) | grind) ?_)
    apply k10_; clear k10_
    refine Do.cond [3,4] rfl (fun h3 => ?_) (fun h3 => ?_) <;> simp [go_sem] at h3 ⊢
    · omega
    · refine Do.skip ?_
      simp [go_sem]
      apply k9_; clear k9_
      refine Do.seqk fun _ k11_ => ?_
      refine Do.region [8,9] true ?_
      simp [go_sem]
      repeat (refine And.intro (by first | omega | (intros; omega) | (intros; exact And.intro (by assumption) (by omega)) | grind) ?_)
      refine DoL.callO true 903 2000 rfl rfl rfl rfl (by first | exact trivial | omega | (simp; done) | (simp; omega)) (hD) rfl rfl rfl ?_
      simp [go_sem]
      apply k11_; clear k11_
      refine Do.ret ?_
      simp [endO, rets, ret1, go_sem]
      repeat (refine And.intro (by first | omega | (intros; omega) | (intros; exact And.intro (by assumption) (by omega)) | grind) ?_)
end Go.Proofs.YtdaecibpkhcllaaGreatDoor
/- What a sum is made of, and how a term is put in. No condition. -/
namespace Go.Proofs.YtdaecibpkhcllaaGreatDoor
set_option linter.unusedVariables false
set_option linter.unusedSimpArgs false
set_option maxHeartbeats 2000000
/-- What a sum is made of. -/
structure Ga where
  sum : Nu
  nan : Bool
  inv : Bool
  plus : Bool
  minus : Bool
  seen : Bool
  some_ : Bool
  other : Bool
abbrev Ga.cs (g : Ga) : List Ce := [.b g.sum.n, .w false (nat g.sum.v), .i .i64 g.sum.e, .b g.nan, .b g.inv, .b g.plus, .b g.minus, .b g.seen, .b g.some_, .b g.other]
def Ga.zero : Ga := ⟨⟨false, 0, 0⟩, false, false, false, false, false, false, false⟩
/-- A term more. -/
def Ga.put (g : Ga) (k : Int) (x : Nu) : Ga :=
  if k = 3 then { g with seen := true, nan := true }
  else if k = 2 then { g with seen := true, plus := g.plus || !x.n, minus := g.minus || x.n }
  else if k = 1 then { g with seen := true, sum := g.sum.plus x, some_ := true, other := true }
  else { g with seen := true, some_ := g.some_ || !x.n, other := g.other || x.n }
theorem All2.ple {l : List Ce} : All2 (fun c d => PLe (.c c) (.c d)) l l := by
  induction l with
  | nil => exact .nil
  | cons c l ih => exact .cons (PLe.refl _) ih
theorem Put_does {g : Ga} {k : Int} {x : Nu} (hg : k = 1 → g.sum.Ok ∧ x.Ok) : DoesP Tryz.prog Gv 103 g.cs [.c (.i .i64 k), x.pv] (g.put k x).cs := by
  obtain ⟨⟨sn, sv, se⟩, nan, inv, plus, minus, seen, some_, other⟩ := g
  obtain ⟨xn, xv, xe⟩ := x
  refine DoesP.of (nt := 80) Tryz.func103 rfl rfl rfl (by simp) rfl rfl rfl ?_
  simp only [argTm, PV.ext, Ce.ext, exts]
  refine Do.seqk fun _ k1_ => ?_
  refine Do.region [0,1,5] true ?_
  simp [go_sem]
  apply k1_; clear k1_
  refine Do.seqk fun _ k2_ => ?_
  refine Do.region [0,1,5] true ?_
  simp [go_sem]
  repeat (refine And.intro (by first | omega | (intros; omega) | (intros; exact And.intro (by assumption) (by omega)) | grind) ?_)
  apply k2_; clear k2_
  refine Do.seqk fun _ k3_ => ?_
  refine Do.region [0,5,9] true ?_
  simp [go_sem]
  apply k3_; clear k3_
  refine Do.block ?_
  refine Do.seqk fun _ k4_ => ?_
  refine Do.region [0,5,9,33] true ?_
  simp [go_sem]
  apply k4_; clear k4_
  refine Do.cond [0,5,9] rfl (fun h1 => ?_) (fun h1 => ?_) <;> simp [go_sem] at h1 ⊢
  · refine Do.region [] true ?_
    simp [go_sem]
    repeat (refine And.intro (by first | omega | (intros; omega) | (intros; exact And.intro (by assumption) (by omega)) | grind) ?_)
    simp [endP, rets, ret1, go_sem]
    repeat (refine And.intro (by first | omega | (intros; omega) | (intros; exact And.intro (by assumption) (by omega)) | grind) ?_)
    rw [Ga.put, if_pos h1]
    exact All2.ple
  · refine Do.seqk fun _ k5_ => ?_
    refine Do.region [0,5,9,38] true ?_
    simp [go_sem]
    apply k5_; clear k5_
    refine Do.cond [0,5,9] rfl (fun h2 => ?_) (fun h2 => ?_) <;> simp [go_sem] at h2 ⊢
    · refine Do.draw [] true (by kernel_rfl) ?_
      simp [go_sem]
      repeat (refine And.intro (by first | omega | (intros; omega) | (intros; exact And.intro (by assumption) (by omega)) | kernel_rfl | grind) ?_)
      try (refine And.intro (by kernel_rfl) ?_)
      simp [endP, rets, ret1, go_sem]
      repeat (refine And.intro (by first | omega | (intros; omega) | (intros; exact And.intro (by assumption) (by omega)) | grind) ?_)
      rw [Ga.put, if_neg h1, if_pos h2]
      exact All2.ple
    · refine Do.seqk fun _ k6_ => ?_
      refine Do.region [0,5,63] true ?_
      simp [go_sem]
      apply k6_; clear k6_
      refine Do.cond [0,5] rfl (fun h3 => ?_) (fun h3 => ?_) <;> simp [go_sem] at h3 ⊢
      · obtain ⟨g1, g2⟩ := hg h3
        refine Do.seqk fun _ k7_ => ?_
        refine Do.draw [0] true (by kernel_rfl) ?_
        simp [go_sem]
        repeat (refine And.intro (by first | omega | (intros; omega) | (intros; exact And.intro (by assumption) (by omega)) | kernel_rfl | grind) ?_)
        refine DoLD.call true 907 rfl rfl rfl rfl (by first | exact trivial | omega | (simp; done) | (simp; omega)) (Plus_does g1 g2) rfl (by first | exact .inl rfl | exact .inr rfl) rfl ?_
        simp [go_sem]
        repeat (refine And.intro (by first | omega | (intros; omega) | (intros; exact And.intro (by assumption) (by omega)) | kernel_rfl | grind) ?_)
        try (refine And.intro (by kernel_rfl) ?_)
        apply k7_; clear k7_
        refine Do.region [] true ?_
        simp [go_sem]
        repeat (refine And.intro (by first | omega | (intros; omega) | (intros; exact And.intro (by assumption) (by omega)) | grind) ?_)
        simp [endP, rets, ret1, go_sem]
        repeat (refine And.intro (by first | omega | (intros; omega) | (intros; exact And.intro (by assumption) (by omega)) | grind) ?_)
        rw [Ga.put, if_neg h1, if_neg h2, if_pos h3]
        exact All2.ple
      · refine Do.draw [] true (by kernel_rfl) ?_
        simp [go_sem]
        repeat (refine And.intro (by first | omega | (intros; omega) | (intros; exact And.intro (by assumption) (by omega)) | kernel_rfl | grind) ?_)
        try (refine And.intro (by kernel_rfl) ?_)
        simp [endP, rets, ret1, go_sem]
        repeat (refine And.intro (by first | omega | (intros; omega) | (intros; exact And.intro (by assumption) (by omega)) | grind) ?_)
        rw [Ga.put, if_neg h1, if_neg h2, if_neg h3]
        exact All2.ple
end Go.Proofs.YtdaecibpkhcllaaGreatDoor
/- Values that stand for an iterator over rows, and for a pointer to cells; a range over rows. No condition. -/
namespace Go.Proofs.YtdaecibpkhcllaaGreatDoor
set_option linter.unusedVariables false
set_option linter.unusedSimpArgs false
open Go.RowKit
set_option linter.unusedVariables false
set_option linter.unusedSimpArgs false
attribute [local go_sem] Oper.semAt_some
theorem enA_le {W W' : World} {ok ok' : Nat → Prop} (h1 : ∀ b, ok b → ok' b) (h2 : ∀ b, ok b → W'.heap[b]? = W.heap[b]?) : EnLe (fun _ => True) (enA W ok) (enA W' ok') :=
  ⟨h1, h2, Nat.le_refl _, fun j _ o ho => by cases ho⟩
/-- A function over rows: the closure that slices.Values makes. -/
def IterSx (fn : Nat) (l : List (List Ce)) : Sx where
  p ok W v := ∃ b sl, v = .func (.func fn) #[] #[.pointer (some ⟨b, 0, none⟩)] ∧ ok b ∧ W.cell? ⟨b, 0, none⟩ = some sl ∧ RP (enA W ok) (.s false l) sl
  one ok W v h := by obtain ⟨b, sl, rfl, _⟩ := h; rfl
  mono ok ok' W W' v h1 h2 h := by
    obtain ⟨b, sl, rfl, g1, g2, g3⟩ := h
    exact ⟨b, sl, rfl, h1 b g1, (cell_of_heap (h2 b g1)).trans g2, RP.mono (enA_le h1 h2) (fun _ _ => trivial) g3⟩
/-- A pointer to cells. -/
def PtrSx (cs : List Ce) : Sx where
  p ok W v := ∃ ad : Addr, v = .pointer (some ad) ∧ ok ad.block ∧ ∃ vs, RCs (enA W ok) cs vs ∧ At W ad vs
  one ok W v h := by obtain ⟨ad, rfl, _⟩ := h; rfl
  mono ok ok' W W' v h1 h2 h := by
    obtain ⟨ad, rfl, g1, vs, g2, g3⟩ := h
    exact ⟨ad, rfl, h1 _ g1, vs, g2.mono (enA_le h1 h2), g3.mono (h2 _ g1)⟩
theorem RCs.same {E E' : En} (hE : ∀ b, E.ok b → E'.ok b) (hW : E'.W = E.W) {cs : List Ce} {vs : List Value} (h : RCs E cs vs) : RCs E' cs vs :=
  ⟨h.1, h.2.mono' fun c hc v hv => by
    have hcp := h.1 c hc
    have hce : c.ext = c := by cases c <;> first | rfl | (simp [Ce.pure] at hcp; subst hcp; rfl)
    rw [← hce]; exact RC.ext_mono hE hW (by rw [Ce.labs_of_pure hcp]; intro j hj; cases hj) (by rw [hce]; exact hv)⟩
section
variable {P : Program} {G : Gl} {nt : Nat} {st : St} {QE : Exit → St → Prop}
theorem lk_le_put {t : Nat} {x : TV} (s : Nat) (y : TV) (tm : List (Nat × TV)) : lk s (put t x tm) = some y → (s = t ∧ y = x) ∨ (s ≠ t ∧ lk s tm = some y) := fun h => by
  rw [lk_put] at h
  split at h
  · rename_i e; injection h with h; exact .inl ⟨e, h.symm⟩
  · rename_i e; exact .inr ⟨e, h⟩
/-- A pointer to cells, taken as one. -/
theorem Do.turn {c : Code} (t : Nat) {cs : List Ce} (ht : lk t st.tm = some (.v (.c (.x (PtrSx cs))))) (h : Do P G nt c ⟨put t (.e cs) st.tm, st.ob⟩ QE) : Do P G nt c st QE := by
  intro cx a W hn ⟨m, hr⟩
  refine h cx a W hn ⟨m, { hr with tm := fun s x hx => ?_ }⟩
  rcases lk_le_put s x st.tm hx with ⟨rfl, rfl⟩ | ⟨_, hx⟩
  · obtain ⟨v, hv, ad, h1, h2, vs, h3, h4⟩ := hr.tm _ _ ht
    exact ⟨v, hv, ad, h1, h2, vs, RCs.same (E := enA W (okOf cx m st.ob W)) (E' := en cx m st.ob W) (fun _ h => h) rfl h3, h4⟩
  · exact hr.tm s x hx
theorem Does.toCalls {f : FuncId} {fn : Func} {c : Code} {args : List PV} {ret : TV} (h : Does P G f args ret) (hf : P.funcs[f]? = some fn) (hname : (fn.name == "runtime.NumGoroutine") = false) (hb : fn.body = some c) {W : World} {ok : Nat → Prop} {vals : List Value} (h1 : ∀ b, ok b → b < W.heap.size) (h2 : GlOk G W) (h3 : All2 (RP (enA W ok)) args vals) :
    Calls P f vals.toArray W (fun e W' => ∃ v, e = .returned v ∧ RowKit.Below W.heap.size W W' ∧ RT (enR W W' ok) ret v) := by
  rcases h W ok vals h1 h2 h3 with ⟨_, h⟩ | ⟨v, h, _⟩
  · exact h
  · exfalso
    have hn' : fn.name ≠ "runtime.NumGoroutine" := by simpa using hname
    simp [callFunc, hf, hn', hb] at h
end
/-- Two blocks of book-keeping lie as they lay. -/
def Books (B : Nat) (W W' : World) : Prop := W'.heap[B]? = W.heap[B]? ∧ W'.heap[B + 1]? = W.heap[B + 1]?
theorem Books.trans {B : Nat} {X Y Z : World} (h : Books B X Y) (k : Books B Y Z) : Books B X Z := ⟨k.1.trans h.1, k.2.trans h.2⟩
theorem Books.below {B n : Nat} {X Y : World} (h : Below n X Y) (hn : B + 1 < n) : Books B X Y := ⟨h.block _ (by omega), h.block _ hn⟩
/-- A range over a function that goes to its end: the k-th round has the k-th values. -/
theorem range_all {P : Program} {n : Nat} {g : Operand} {ps : Array Tmp} {assign body : Code} {Q : Exit → Act → World → Prop} {a : Act} {w : World} (h1 : 1 ≤ n)
    {gf : Nat} {lb : Array Value} (hg : a.eval g = .func (.func gf) #[] lb) (eg : ∀ args w, (callFunc gf args).run P w = .ok (.enter gf args) w)
    {encs : Nat → Array Value} {N n0 : Nat} (hps : ∀ k, (encs k).size = ps.size) (hn0 : n0 ≤ w.heap.size)
    (hseq : ∀ (l : Nat) (J : Nat → World → Prop) (W : World), Below w.heap.size w W → (∀ k X Y, J k X → Below X.heap.size X Y → J k Y) →
      (∀ k W1, k < N → J k W1 → YieldAt Fence.wide (n - 1 - 1) P l (encs k) W1 fun e W' => e = .returned (.bool true) ∧ J (k + 1) W' ∧ Below n0 W1 W') → J 0 W →
      CallsIn Fence.wide (n - 1) P gf (#[.func (.yield l) #[] #[]] ++ lb) W fun e W' => (∃ v, e = .returned v) ∧ J N W')
    (I : Nat → World → Prop) (hI : ∀ k X Y, I k X → Below X.heap.size X Y → I k Y) (hIp : ∀ k X b o, (b = w.heap.size ∨ b = w.heap.size + 1) → I k X → I k (X.putObj b o)) (h0 : I 0 w)
    (A : Nat → Act → World → Prop) (hA : ∀ k a' X o, A k a' X → A k a' (X.putObj (w.heap.size + 1) o))
    (hassign : ∀ k W, k < N → I k W → w.heap.size + 1 < W.heap.size → assign.wpIn (Fence.wide.inRound (w.heap.size + 1)) (n - 1 - 1) P (Exit.then (fun a1 W1 => Books w.heap.size W W1 ∧ Below n0 W W1 ∧ A k a1 W1) (fun _ _ _ => False)) { tmps := (ps.zip (encs k)).foldl (fun t (p, v) => t.setIfInBounds p v) a.tmps, defers := [] } W)
    (hbody : ∀ k a1 W1, k < N → A k a1 W1 → body.wpIn (Fence.wide.inRound (w.heap.size + 1)) (n - 1 - 1) P (fun e a2 W2 => e = .normal ∧ Books w.heap.size W1 W2 ∧ Below n0 W1 W2 ∧ I (k + 1) W2) a1 W1)
    (hdone : ∀ W, I N W → W.heap[w.heap.size]? = some (.deferred (some [])) → Q .normal { a with defers := { target := .collected w.heap.size, args := #[] } :: a.defers } W) :
    (Code.rangeFunc g ps assign body).wpIn Fence.wide n P Q a w := by
  refine wpIn_rangeFunc fun fn hfn => ?_
  obtain ⟨rec, hrec⟩ : ∃ rec : LoopState → Option Code → Loop, rec = fun st pe => { state := st, pending := pe, fn, tmps := a.tmps, params := ps, assign, body, defers := w.heap.size } := ⟨_, rfl⟩
  obtain ⟨W1, hW1⟩ : ∃ W1, (w.alloc (.deferred (some []))).alloc (.loop (rec .ready none)) = W1 := ⟨_, rfl⟩
  have hL1 : W1.heap[w.heap.size + 1]? = some (.loop (rec .ready none)) := by
    have := World.alloc_heap_new (w.alloc (.deferred (some []))) (.loop (rec .ready none))
    rwa [hW1, World.size_alloc] at this
  have hK1 : W1.heap[w.heap.size]? = some (.deferred (some [])) := by
    rw [← hW1]; exact (Below.heap_alloc _ _ _ (by simp)).trans (World.alloc_heap_new w _)
  have hb1 : Below w.heap.size w W1 := by
    rw [← hW1]; exact ((Below.refl _ w).alloc (Nat.le_refl _) _).alloc (by simp) _
  have hI1 : I 0 W1 := hI 0 w W1 h0 hb1
  have hpb : ∀ (X : World) (o : Obj), Below n0 X (X.putObj (w.heap.size + 1) o) := fun X o => ⟨rfl, rfl, rfl, by simp, fun k hk => World.putObj_heap_other (by omega)⟩
  refine ⟨w.heap.size + 1, [{ target := .collected w.heap.size, args := #[] }], W1, { target := .fn (.func gf) lb, args := #[.func (.yield (w.heap.size + 1)) #[] #[]] }, W1, gf,
    #[.func (.yield (w.heap.size + 1)) #[] #[]] ++ lb, W1, ?_, ?_, fun _ _ => trivial, ?_, fun _ => h1, ?_⟩
  · rw [← hW1, hrec]; exact run_enterLoop_outer _ _ _ _ _
  · simp only [resolve, hg]
    simp [go_sem]
  · simp [invoke, go_sem, eg]
  refine (hseq (w.heap.size + 1) (fun k W => I k W ∧ W.heap[w.heap.size + 1]? = some (.loop (rec .ready none)) ∧ W.heap[w.heap.size]? = some (.deferred (some []))) W1 hb1 ?_ ?_ ⟨hI1, hL1, hK1⟩).mono ?_
  · rintro k X Y ⟨i1, i2, i3⟩ hb
    exact ⟨hI k X Y i1 hb, (hb.block _ (Array.getElem?_eq_some_iff.1 i2).1).trans i2, (hb.block _ (Array.getElem?_eq_some_iff.1 i3).1).trans i3⟩
  · rintro k W hk ⟨hi, hl, hd⟩
    have hlt : w.heap.size + 1 < W.heap.size := (Array.getElem?_eq_some_iff.1 hl).1
    have hy := run_yield (P := P) (args := encs k) hl (by rw [hrec]; exact hps k)
    rw [hrec] at hy
    refine ⟨fn, _, assign, body, hy, roundIn_of_wpIn hfn (wpIn_mono (hassign k W hk hi hlt) ?_)⟩
    intro e a1 Wa hq
    cases e with
    | normal =>
      obtain ⟨hB, hba, ha⟩ := hq
      have hl2 := hB.2.trans hl
      have hd2 := hB.1.trans hd
      have hlt2 : w.heap.size + 1 < Wa.heap.size := (Array.getElem?_eq_some_iff.1 hl2).1
      refine ⟨_, run_beginRound hl2 (by rw [hrec]), ?_⟩
      refine wpIn_mono (hbody k a1 _ hk (hA k a1 Wa _ ha)) ?_
      rintro e a2 W3 ⟨rfl, hB3, hb3, hi3⟩
      have hl3 := hB3.2.trans (World.putObj_heap_same hlt2)
      have hd3 := hB3.1.trans ((World.putObj_heap_other (by omega)).trans hd2)
      have hr := run_endRound (P := P) none hl3
      rw [hrec] at hr
      refine ⟨_, _, hr, rfl, ⟨hIp _ _ _ _ (.inr rfl) hi3, ?_, (World.putObj_heap_other (by omega)).trans hd3⟩, ((hba.trans (hpb _ _)).trans hb3).trans (hpb _ _)⟩
      rw [World.putObj_heap_same (Array.getElem?_eq_some_iff.1 hl3).1, hrec]
      rfl
    | ret => exact hq.elim
    | exit id => exact hq.elim
    | goto t => exact hq.elim
    | panic ch => exact hq.elim
    | outgrown => exact hq.elim
  · rintro e W2 ⟨⟨v, rfl⟩, hi, hl, hd⟩
    exact ⟨none, _, by have := run_endLoop (P := P) hl (by rw [hrec]; simp); rw [hrec] at this; exact this, hdone _ (hIp _ _ _ _ (.inr rfl) hi) ((World.putObj_heap_other (by omega)).trans hd)⟩
set_option maxHeartbeats 1000000 in
set_option maxRecDepth 100000 in
/-- slices.Values. -/
theorem values_in (n : Nat) (A : Option Addr) (len cap : Nat) (w : World) :
    CallsIn Fence.wide n Tryz.prog 67 #[.slice A len cap] w fun e w' => e = .returned (.func (.func 104) #[] #[.pointer (some ⟨w.heap.size, 0, none⟩)]) ∧ ∃ ty, w' = w.alloc (.cells #[.slice A len cap] ty) := by
  refine callsIn_of_wp Tryz.func67 rfl trivial ?_ rfl
  simp only [Tryz.ntmps67, List.size_toArray, List.length_cons, List.length_nil, Nat.reduceAdd, Nat.reduceSub, Array.replicate_succ, Array.replicate_zero, List.push_toArray, List.append_toArray, List.nil_append, List.cons_append]
  gi_wp2
  go_ret
  exact ⟨rfl, _, rfl⟩
set_option maxHeartbeats 2000000 in
set_option maxRecDepth 100000 in
/-- The function that slices.Values hands back. -/
theorem values1_in (n : Nat) (hn : 1 ≤ n) (l Bs n0 : Nat) (wE : World) (A : Option Addr) (len cap : Nat) (i0 : Nat → Int) (i1 : Nat → Bool) (i2 : Nat → Int) (a3 : Nat → Option Addr) (n3 p3 : Nat → Nat) (hmax : len ≤ 9223372036854775807) (hC : ∀ k : Nat, k < len → ∃ ad : Addr, A = some ad ∧ wE.cell? (ad.add (k * 4)) = some (.int .i64 (i0 k)) ∧ wE.cell? ⟨(ad.add (k * 4)).block, (ad.add (k * 4)).off + 1, none⟩ = some (.bool (i1 k)) ∧ wE.cell? ⟨(ad.add (k * 4)).block, (ad.add (k * 4)).off + 2, none⟩ = some (.int .i64 (i2 k)) ∧ wE.cell? ⟨(ad.add (k * 4)).block, (ad.add (k * 4)).off + 3, none⟩ = some (.slice (a3 k) (n3 k) (p3 k)))
    (hE : n0 = wE.heap.size) (J : Nat → World → Prop) (hJ : ∀ k X Y, J k X → Below X.heap.size X Y → J k Y)
    (hY : ∀ k W1, k < len → J k W1 → YieldAt Fence.wide (n - 1) Tryz.prog l #[.agg #[.int .i64 (i0 k), .bool (i1 k), .int .i64 (i2 k), .slice (a3 k) (n3 k) (p3 k)]] W1 fun e W' => e = .returned (.bool true) ∧ J (k + 1) W' ∧ Below n0 W1 W')
    (W : World) (hb : Below n0 wE W) (hBs : wE.cell? ⟨Bs, 0, none⟩ = some (.slice A len cap)) (h0 : J 0 W) :
    CallsIn Fence.wide n Tryz.prog 104 #[.func (.yield l) #[] #[], .pointer (some ⟨Bs, 0, none⟩)] W fun e W' => (∃ v, e = .returned v) ∧ J len W' := by
  subst hE
  have cb : ∀ {w' : World} {a : Addr} {v : Value}, Below wE.heap.size wE w' → wE.cell? a = some v → w'.cell? a = some v := fun h h' => (cell_of_heap (h.block _ (World.block_lt_of_cell? wE _ h'))).trans h'
  have hBs' : W.cell? ⟨Bs, 0, none⟩ = some (.slice A len cap) := cb hb hBs
  refine callsIn_of_wp Tryz.func104 rfl trivial ?_ rfl
  simp only [Tryz.ntmps104, List.size_toArray, List.length_cons, List.length_nil, Nat.reduceAdd, Nat.reduceSub, Array.replicate_succ, Array.replicate_zero, List.push_toArray, List.append_toArray, List.nil_append, List.cons_append]
  gi_wp2
  gi_loopw [7] (fun i wr => ∃ k : Nat, k ≤ len ∧ i = .int .i64 k ∧ J k wr ∧ Below wE.heap.size wE wr)
    (fun i _ => len - (intOf i).toNat)
  case atStart => exact ⟨0, Nat.zero_le _, rfl, h0, hb⟩
  case round =>
    obtain ⟨k, hk, rfl, hJs, hnx⟩ := hrel
    by_cases hlt : k < len
    · obtain ⟨ad, rfl, c0, c1, c2, c3⟩ := hC k hlt
      have d0 := cb hnx c0
      have d1 := cb hnx c1
      have d2 := cb hnx c2
      have d3 := cb hnx c3
      obtain ⟨fn, tmps, assign, body, hy, hR⟩ := hY k (wr.alloc (.cells #[.int .i64 (i0 k), .bool (i1 k), .int .i64 (i2 k), .slice (a3 k) (n3 k) (p3 k)] 29)) hlt (hJ _ _ _ hJs ((Below.refl _ _).alloc (Nat.le_refl _) _))
      gi_wp2
      refine hR.mono ?_
      rintro e W3 ⟨rfl, hJ3, hk3⟩
      gi_wp2
      go_roundw
      case rel => exact ⟨k + 1, by omega, by simp, hJ3, hnx.trans (((Below.refl wE.heap.size wr).alloc hnx.size _).trans hk3)⟩
      case measure => simp [intOf]; omega
    · obtain rfl : k = len := by omega
      gi_wp2
      go_end0
      exact ⟨⟨_, rfl⟩, hJs⟩
end Go.Proofs.YtdaecibpkhcllaaGreatDoor
/- What slices.Values and sum.gather compute. No condition. -/
namespace Go.Proofs.YtdaecibpkhcllaaGreatDoor
set_option linter.unusedVariables false
set_option linter.unusedSimpArgs false
open Go.RowKit
set_option linter.unusedVariables false
set_option linter.unusedSimpArgs false
attribute [local go_sem] Oper.semAt_some
theorem Values_does {G : Gl} {l : List (List Ce)} : Does Tryz.prog G 67 [.s false l] (.v (.c (.x (IterSx 104 l)))) := by
  intro W ok vals hok hgl hargs
  obtain ⟨sl, r, rfl, h1, h2⟩ := hargs.cons_iff
  cases h2
  have h1' := h1
  obtain ⟨a, c, sz, rfl, _⟩ := h1
  refine .inl ⟨?_, ((callsIn_wide (n := 1)).1 (values_in 1 a l.length c W)).mono ?_⟩
  · simp [callFunc, Tryz.func67]; rfl
  · rintro e W' ⟨rfl, ty, rfl⟩
    have hb := (Below.refl W.heap.size W).alloc (Nat.le_refl _) (.cells #[.slice a l.length c] ty)
    refine ⟨_, rfl, hb, W.heap.size, _, rfl, ⟨.inr (Nat.le_refl _), by simp⟩, ?_, RP.mono (enA_le (fun b hb' => ⟨.inl hb', by have := hok b hb'; simp; omega⟩) fun b hb' => hb.block b (hok b hb')) (fun _ _ => trivial) h1'⟩
    show (W.alloc _).cell? _ = _
    simp only [World.cell?]
    rw [show (W.alloc (.cells #[.slice a l.length c] ty)).heap[W.heap.size]? = _ from heap_alloc_new]
    rfl
/-- What is gathered of a list. -/
def gatherP (l : List Flt) : Ga := l.foldl (fun g x => g.put x.k ⟨x.n, x.v, x.e⟩) .zero
/-- Every step is in the range. -/
def GatherOk (l : List Flt) : Prop := ∀ i x, l[i]? = some x → x.k = 1 → (gatherP (l.take i)).sum.Ok ∧ (⟨x.n, x.v, x.e⟩ : Nu).Ok
structure Hid (p : Prop) : Prop where
  out : p
def okk (ok : Nat → Prop) (B : Nat) (W : World) (c : Nat) : Prop := (ok c ∨ B + 4 ≤ c) ∧ c < W.heap.size
/-- What holds at a round's head. -/
structure GRound (ok : Nat → Prop) (w : World) (g : Ga) (W : World) : Prop where
  below : Below w.heap.size w W
  held : ∃ vs ty, W.heap[w.heap.size]? = some (.cells vs ty (0, 0)) ∧ All2 (RC (enA W (okk ok w.heap.size W))) g.cs vs.toList
  var : ∃ ty, W.heap[w.heap.size + 1]? = some (.cells #[.pointer (some ⟨w.heap.size, 0, none⟩)] ty (0, 0))
section
variable {ok : Nat → Prop} {w X Y : World} {g : Ga}
theorem GRound.later (hok : ∀ b, ok b → b < w.heap.size) (h : GRound ok w g X) (hb : Below X.heap.size X Y) : GRound ok w g Y := by
  obtain ⟨h1, ⟨vs, ty, h2, h3⟩, ty', h4⟩ := h
  refine ⟨h1.trans (hb.mono h1.size), ⟨vs, ty, (hb.block _ (lt_of_heap h2)).trans h2, h3.mono fun c v hv => RC.mono (enA_le (fun b hb' => ⟨hb'.1, Nat.lt_of_lt_of_le hb'.2 hb.size⟩) fun b hb' => hb.block b hb'.2) (fun _ _ => trivial) hv⟩, ty', (hb.block _ (lt_of_heap h4)).trans h4⟩
theorem GRound.other (hok : ∀ b, ok b → b < w.heap.size) {b : Nat} (o : Obj) (hb : b = w.heap.size + 2 ∨ b = w.heap.size + 3) (h : GRound ok w g X) : GRound ok w g (X.putObj b o) := by
  obtain ⟨h1, ⟨vs, ty, h2, h3⟩, ty', h4⟩ := h
  refine ⟨⟨h1.os, h1.tape, h1.output, by simpa using h1.size, fun k hk => (World.putObj_heap_other (by omega)).trans (h1.block k hk)⟩, ⟨vs, ty, (World.putObj_heap_other (by omega)).trans h2, h3.mono fun c v hv => RC.mono (enA_le (fun c hc => ⟨hc.1, by simpa using hc.2⟩) fun c hc => World.putObj_heap_other ?_) (fun _ _ => trivial) hv⟩, ty', (World.putObj_heap_other (by omega)).trans h4⟩
  rcases hc.1 with h | h
  · have := hok c h; omega
  · omega
end
/-- A loop's variable and what else holds in a round. -/
structure GVar (ok : Nat → Prop) (w : World) (g : Ga) (Bs : Nat) (e0 e3 : Value) (i0 : Int) (b0 : Bool) (i2 : Int) (b : Nat) (a : Act) (W : World) : Prop where
  acts : a = { tmps := #[e0, undef, .pointer none, .pointer (some ⟨w.heap.size + 1, 0, none⟩), .pointer (some ⟨b, 0, none⟩),
    .agg #[.bool false, .slice none 0 0, .int .i64 0, .bool false, .bool false, .bool false, .bool false, .bool false, .bool false, .bool false], .pointer (some ⟨w.heap.size, 0, none⟩), e0, .agg #[.int .i64 i0, .bool b0, .int .i64 i2, e3], undef, undef, undef, undef, undef, undef, undef], defers := [] }
  round : GRound ok w g W
  blk : W.heap[b]? = some (.cells #[.int .i64 i0, .bool b0, .int .i64 i2, e3] 29 (0, 0))
  big : w.heap.size + 4 ≤ b
theorem gatherP_take {l : List Flt} {i : Nat} {x : Flt} (h : l[i]? = some x) : gatherP (l.take (i + 1)) = (gatherP (l.take i)).put x.k ⟨x.n, x.v, x.e⟩ := by
  unfold gatherP
  rw [List.take_add_one, h]
  simp
theorem GlOk.below {G : Gl} {X Y : World} (h : GlOk G X) (hb : Below X.heap.size X Y) : GlOk G Y := fun b off x hx => by
  obtain ⟨h1, v, h2, h3⟩ := h b off x hx
  exact ⟨h1, v, (cell_of_heap (hb.block b (World.block_lt_of_cell? X _ h2))).trans h2, h3⟩
theorem of_call {X : World} {okX : Nat → Prop} {m : List Nat} {k e : Int} {n : Bool} {wv : Value} (h1 : ∀ b, okX b → b < X.heap.size) (h2 : GlOk Gv X) (h3 : RC (enA X okX) (.w false m) wv) :
    Calls Tryz.prog 57 #[.agg #[.int .i64 k, .bool n, .int .i64 e, wv]] X (fun en X' => ∃ v, en = .returned v ∧ Below X.heap.size X X' ∧ RT (enR X X' okX) (.v (Nm n m e)) v) :=
  Does.toCalls (vals := [.agg #[.int .i64 k, .bool n, .int .i64 e, wv]]) Of_does Tryz.func57 rfl rfl h1 h2 (.cons ⟨_, rfl, .cons rfl (.cons rfl (.cons rfl (.cons h3 .nil)))⟩ .nil)
theorem put_call {ok : Nat → Prop} {w X : World} {g : Ga} {k : Int} {x : Nu} {v : Value} (hok : ∀ b, ok b → b < w.heap.size) (hgl : GlOk Gv w) (hsz : w.heap.size + 4 ≤ X.heap.size) (h : GRound ok w g X) (hg : k = 1 → g.sum.Ok ∧ x.Ok) (hv : RP (enA X (okk ok w.heap.size X)) x.pv v) :
    Calls Tryz.prog 103 #[.pointer (some ⟨w.heap.size, 0, none⟩), .int .i64 k, v] X (fun en X' => en = .returned (.tuple #[]) ∧ BelowX w.heap.size X X' ∧ GRound ok w (g.put k x) X') := by
  obtain ⟨h1, ⟨vs, ty, h2, h3⟩, ty', h4⟩ := h
  have hnb : ¬ okk ok w.heap.size X w.heap.size := by
    rintro ⟨h | h, _⟩
    · have := hok _ h; omega
    · omega
  have hgX : GlOk Gv X := hgl.below h1
  refine ((Put_does hg) X (okk ok w.heap.size X) [.int .i64 k, v] w.heap.size vs ty (fun b hb => hb.2) hgX (fun b' off y hy e => ?_) hnb h2 h3 (.cons rfl (.cons hv .nil))).2.mono ?_
  · obtain ⟨_, u, q, _⟩ := hgl b' off y hy
    have := World.block_lt_of_cell? w _ q
    subst e; exact absurd this (Nat.lt_irrefl _)
  · rintro en X' ⟨rfl, hX, hsh, vs', e', q1, q2⟩
    have okr : ∀ b, (enR X X' (okk ok w.heap.size X)).ok b → ok b ∨ w.heap.size + 4 ≤ b := fun b hb => by
      rcases hb.1 with h | h
      · exact h.1
      · exact .inr (Nat.le_trans hsz h)
    refine ⟨rfl, hX, ⟨hX.os.trans h1.os, hX.tape.trans h1.tape, hX.output.trans h1.output, Nat.le_trans h1.size hX.size, fun c hc => (hX.block c (Nat.lt_of_lt_of_le hc h1.size) (by omega)).trans (h1.block c hc)⟩, ⟨vs', e', q1, q2.mono fun c v hv => RC.mono (L := fun _ => True) (E := enR X X' (okk ok w.heap.size X)) (E' := enA X' (okk ok w.heap.size X')) ⟨fun b hb => ⟨okr b hb, hb.2⟩, fun _ _ => rfl, Nat.zero_le _, fun j _ o ho => by cases ho⟩ (fun _ _ => trivial) hv⟩, ty', (hX.block _ (lt_of_heap h4) (by omega)).trans h4⟩
theorem put_call2 {ok : Nat → Prop} {w X w3 : World} {g : Ga} {k e : Int} {n : Bool} {z : Nat} {v : Value} (hok : ∀ b, ok b → b < w.heap.size) (hgl : GlOk Gv w) (hsz : w.heap.size + 4 < X.heap.size + 1) (h : GRound ok w g X) (hb : Below X.heap.size X w3) (hv : RT (enR X w3 (okk ok w.heap.size X)) (.v (Nm n (nat z) e)) v) (hg : k = 1 → g.sum.Ok ∧ (⟨n, z, e⟩ : Nu).Ok) :
    Calls Tryz.prog 103 #[.pointer (some ⟨w.heap.size, 0, none⟩), .int .i64 k, v] w3 (fun en X' => en = .returned (.tuple #[]) ∧ BelowX w.heap.size w3 X' ∧ GRound ok w (g.put k ⟨n, z, e⟩) X') := by
  have h3 := hb.size
  refine put_call hok hgl (by omega) (h.later hok hb) hg ?_
  have hv' : RP (enR X w3 (okk ok w.heap.size X)) (Nm n (nat z) e) v := hv
  refine RP.mono (L := fun _ => True) (E := enR X w3 (okk ok w.heap.size X)) (E' := enA w3 (okk ok w.heap.size w3)) ⟨fun b hb => ⟨?_, hb.2⟩, fun _ _ => rfl, Nat.zero_le _, fun j _ o ho => by cases ho⟩ (fun _ _ => trivial) hv'
  rcases hb.1 with h | h
  · exact h.1
  · exact .inr (by omega)
set_option maxHeartbeats 4000000 in
set_option maxRecDepth 100000 in
theorem gather_does {l : List Flt} (hl : l.length < 1099511627776) (hg : GatherOk l) : Does Tryz.prog Gv 66 [.c (.x (IterSx 104 (l.map Flt.cs)))] (.v (.c (.x (PtrSx (gatherP l).cs)))) := by
  intro w ok vals hok hgl hargs
  obtain ⟨fv, r, rfl, h1, h2⟩ := hargs.cons_iff
  cases h2
  obtain ⟨Bs, sl, rfl, okB, hBs, hsl⟩ := h1
  obtain ⟨A, cap, sz, rfl, hcap, hcells⟩ := hsl
  rw [List.length_map] at hBs
  have hx : ∀ k, ∃ x : Flt, k < l.length → l[k]? = some x := fun k => by
    by_cases h : k < l.length
    · exact ⟨l[k], fun _ => List.getElem?_eq_getElem h⟩
    · exact ⟨⟨0, false, 0, 0⟩, fun h' => absurd h' h⟩
  obtain ⟨xs, hxs⟩ := Classical.skolem.1 hx
  have hC0 : ∀ k, ∃ p : Option Addr × Nat, k < l.length → (∃ ad : Addr, A = some ad ∧ w.cell? (ad.add (k * 4)) = some (.int .i64 (xs k).k) ∧ w.cell? ⟨(ad.add (k * 4)).block, (ad.add (k * 4)).off + 1, none⟩ = some (.bool (xs k).n) ∧ w.cell? ⟨(ad.add (k * 4)).block, (ad.add (k * 4)).off + 2, none⟩ = some (.int .i64 (xs k).e) ∧ w.cell? ⟨(ad.add (k * 4)).block, (ad.add (k * 4)).off + 3, none⟩ = some (.slice p.1 (nat (xs k).v).length p.2)) ∧ RC (enA w ok) (.w false (nat (xs k).v)) (.slice p.1 (nat (xs k).v).length p.2) := fun k => by
    by_cases hk : k < l.length
    · obtain ⟨g1, ad, rfl, g2, g3, vs, g4, g5⟩ := hcells k (xs k).cs (by simp [hxs k hk])
      have hsz : sz = 4 := by simpa using g1.symm
      subst hsz
      obtain ⟨g4, g6⟩ := g4
      obtain ⟨v0, r0, rfl, a0, g6⟩ := g6.cons_iff
      obtain ⟨v1, r1, rfl, a1, g6⟩ := g6.cons_iff
      obtain ⟨v2, r2, rfl, a2, g6⟩ := g6.cons_iff
      obtain ⟨v3, r3, rfl, a3, g6⟩ := g6.cons_iff
      have a3' := a3
      obtain ⟨aa, cc, rfl, _⟩ := a3
      have q0 := g5 0 _ rfl
      have q1 := g5 1 _ rfl
      have q2 := g5 2 _ rfl
      have q3 := g5 3 _ rfl
      have e0 : v0 = _ := a0
      have e1 : v1 = _ := a1
      have e2 : v2 = _ := a2
      subst e0 e1 e2
      refine ⟨(aa, cc), fun _ => ⟨⟨ad, rfl, ?_, ?_, ?_, ?_⟩, a3'⟩⟩
      · exact q0
      · exact q1
      · exact q2
      · exact q3
    · exact ⟨(none, 0), fun h => absurd h hk⟩
  obtain ⟨fa, hfa⟩ := Classical.skolem.1 hC0
  have hC := fun k hk => (hfa k hk).1
  have hV := fun k hk => (hfa k hk).2
  clear hfa hC0 hcells hx
  obtain ⟨len, hlen⟩ : ∃ len, l.length = len := ⟨_, rfl⟩
  rw [hlen] at hC hV hxs hBs hl
  have hBs : w.cell? ⟨Bs, 0, none⟩ = some (.slice A len cap) := hBs
  refine .inl ⟨?_, ?_⟩
  · simp [callFunc, Tryz.func66]; rfl
  suffices h : CallsIn Fence.wide 10 Tryz.prog 66 #[.func (.func 104) #[] #[.pointer (some ⟨Bs, 0, none⟩)]] w fun e w' => e = .returned (.pointer (some ⟨w.heap.size, 0, none⟩)) ∧ GRound ok w (gatherP l) w' by
    refine (callsIn_wide.1 h).mono ?_
    rintro e w' ⟨rfl, h1, ⟨vs, ty, h2, h3⟩, h4⟩
    have hB := lt_of_heap h2
    refine ⟨_, rfl, h1, ⟨w.heap.size, 0, none⟩, rfl, ⟨.inr (Nat.le_refl _), hB⟩, vs.toList, ⟨by simp [Ce.pure], h3.mono fun c v hv => RC.mono (enA_le (fun b hb => ⟨hb.1.imp id fun h => by omega, hb.2⟩) fun b hb => rfl) (fun _ _ => trivial) hv⟩, fun q u hq => ?_⟩
    show w'.cell? _ = _
    rw [World.cell?]
    have ha : ((⟨w.heap.size, 0, none⟩ : Addr).add q) = ⟨w.heap.size, q, none⟩ := by unfold Addr.add; split <;> simp_all
    rw [ha]
    simp only []
    rw [h2]
    simpa using hq
  have hu32 := Tryz.underlying29
  have hu73 := Tryz.underlying112
  refine callsIn_of_wp_marks Tryz.func66 rfl trivial ?_ rfl
  simp only [Tryz.ntmps66, List.size_toArray, List.length_cons, List.length_nil, Nat.reduceAdd, Nat.reduceSub, Array.replicate_succ, Array.replicate_zero, List.push_toArray, List.append_toArray, List.nil_append, List.cons_append]
  gi_wp2
  obtain ⟨w2, hw2⟩ : ∃ w2, (w.alloc (.cells #[.bool false, .slice none 0 0, .int .i64 0, .bool false, .bool false, .bool false, .bool false, .bool false, .bool false, .bool false] 112)).alloc (.cells #[.pointer (some ⟨w.heap.size, 0, none⟩)] 113) = w2 := ⟨_, rfl⟩
  have hb2 : Below w.heap.size w w2 := by rw [← hw2]; exact ((Below.refl _ w).alloc (Nat.le_refl _) _).alloc (by simp) _
  have hs2 : w2.heap.size = w.heap.size + 2 := by rw [← hw2]; simp
  have hg2 : w2.heap[w.heap.size]? = some (.cells #[.bool false, .slice none 0 0, .int .i64 0, .bool false, .bool false, .bool false, .bool false, .bool false, .bool false, .bool false] 112 (0, 0)) := by
    rw [← hw2]; exact (heap_alloc_old (by simp)).trans heap_alloc_new
  have hv2 : w2.heap[w.heap.size + 1]? = some (.cells #[.pointer (some ⟨w.heap.size, 0, none⟩)] 113 (0, 0)) := by
    rw [← hw2]
    have := heap_alloc_new (W := w.alloc (.cells #[.bool false, .slice none 0 0, .int .i64 0, .bool false, .bool false, .bool false, .bool false, .bool false, .bool false, .bool false] 112)) (o := .cells #[.pointer (some ⟨w.heap.size, 0, none⟩)] 113)
    rwa [World.size_alloc] at this
  rw [hw2]
  have h0 : GRound ok w (gatherP (l.take 0)) w2 := by
    refine ⟨hb2, ⟨_, _, hg2, ?_⟩, _, hv2⟩
    refine .cons rfl (.cons (show RC _ (.w false (nat 0)) _ by rw [nat_zero]; exact PLe.z false (enA w2 (okk ok w.heap.size w2)) _ rfl) (.cons rfl (.cons rfl (.cons rfl (.cons rfl (.cons rfl (.cons rfl (.cons rfl (.cons rfl .nil)))))))))
  refine range_all (by decide) (gf := 104) (lb := #[.pointer (some ⟨Bs, 0, none⟩)]) rfl (fun args w => by simp [callFunc, Tryz.func104]; rfl) (encs := fun k => #[.agg #[.int .i64 (xs k).k, .bool (xs k).n, .int .i64 (xs k).e, .slice (fa k).1 (nat (xs k).v).length (fa k).2]]) (N := len) (n0 := w.heap.size) (fun _ => rfl) (by omega) ?seq (fun k => GRound ok w (gatherP (l.take k))) (fun k X Y h hb => GRound.later hok h hb) (fun k X b o hb h => GRound.other hok o (by omega) h) h0 (fun k a' X => ∃ b, GVar ok w (gatherP (l.take k)) Bs (.func (.func 104) #[] #[.pointer (some ⟨Bs, 0, none⟩)]) (.slice (fa k).1 (nat (xs k).v).length (fa k).2) (xs k).k (xs k).n (xs k).e b a' X) ?keep ?assign ?body ?done
  case seq =>
    intro n J W hb hJ hY h0
    exact values1_in 9 (by decide) n Bs w.heap.size w A len cap _ _ _ _ _ _ (by omega) hC rfl J hJ hY W (hb2.trans (hb.mono (by omega))) hBs h0
  case keep =>
    rintro k a' X o ⟨b, h1, h2, h3, h4⟩
    exact ⟨b, h1, GRound.other hok o (by omega) h2, (World.putObj_heap_other (by omega)).trans h3, h4⟩
  case assign =>
    intro k W hk hi hsz
    have hsz' : w.heap.size + 3 < W.heap.size := by omega
    gi_wp2
    have hbl := (Below.refl W.heap.size W).alloc (Nat.le_refl _) (.cells #[.int .i64 (xs k).k, .bool (xs k).n, .int .i64 (xs k).e, .slice (fa k).1 (nat (xs k).v).length (fa k).2] 29)
    exact ⟨Books.below hbl (by omega), hbl.mono (by omega), W.heap.size, rfl, GRound.later hok hi hbl, heap_alloc_new, by omega⟩
  case body =>
    rintro k a1 W1 hk ⟨b, rfl, hi, hb, hbig⟩
    have e0 : W1.cell? ⟨b, 0, none⟩ = some (.int .i64 (xs k).k) := by simp only [World.cell?]; rw [hb]; rfl
    have e1 : W1.cell? ⟨b, 1, none⟩ = some (.bool (xs k).n) := by simp only [World.cell?]; rw [hb]; rfl
    have e2 : W1.cell? ⟨b, 2, none⟩ = some (.int .i64 (xs k).e) := by simp only [World.cell?]; rw [hb]; rfl
    have e3 : W1.cell? ⟨b, 3, none⟩ = some (.slice (fa k).1 (nat (xs k).v).length (fa k).2) := by simp only [World.cell?]; rw [hb]; rfl
    have e4 : W1.cell? ⟨w.heap.size + 1, 0, none⟩ = some (.pointer (some ⟨w.heap.size, 0, none⟩)) := by
      obtain ⟨ty, h⟩ := hi.var
      simp only [World.cell?]; rw [h]; rfl
    have hmix : Tryz.prog.follows .mixedOrders = true := by kernel_rfl
    have hsz : w.heap.size + 4 < W1.heap.size + 1 := by have := lt_of_heap hb; omega
    have hdr : Below W1.heap.size W1 W1.drew := ⟨rfl, rfl, rfl, Nat.le_refl _, fun _ _ => rfl⟩
    have hi' := GRound.later hok hi hdr
    have okw : ∀ {X : World}, Below w.heap.size w X → EnLe (fun _ => True) (enA w ok) (enA X (okk ok w.heap.size X)) := fun hX => enA_le (fun b hb => ⟨.inl hb, Nat.lt_of_lt_of_le (hok b hb) hX.size⟩) fun b hb => hX.block b (hok b hb)
    have H28 := Hid.mk (of_call (X := W1.drew) (okX := okk ok w.heap.size W1.drew) (m := nat (xs k).v) (k := (xs k).k) (e := (xs k).e) (n := (xs k).n) (fun b hb => hb.2) (hgl.below hi'.below) (RC.mono (okw hi'.below) (fun _ _ => trivial) (hV k hk)))
    have HI := Hid.mk hi'
    have HB := Hid.mk hsz
    have h28 : Fence.wide.fn 57 := trivial
    have h52 : Fence.wide.fn 103 := trivial
    clear hi hi' hdr hsz
    gi_wp2
    gi_region_with_o (first
      | (gi_at_call 57; refine (CallsIn.inRound _ (callsIn_wide.2 H28.out)).mono ?_; rintro e w3 ⟨v1, rfl, hb1, hv1⟩; have HV1 := Hid.mk hv1; have HB1 := Hid.mk hb1; have f0 := (cell_of_heap (hb1.block _ (World.block_lt_of_cell? _ _ e0))).trans e0; have f4 := (cell_of_heap (hb1.block _ (World.block_lt_of_cell? _ _ e4))).trans e4; clear hv1 hb1)
      | (gi_at_call 103; refine (CallsIn.inRound _ (callsIn_wide.2 (put_call2 (X := W1.drew) hok hgl HB.out HI.out HB1.out HV1.out (hg k _ (hxs k hk))))).mono ?_; rintro e w4 ⟨rfl, HX, HH⟩))
    all_goals
      have q : ∀ c, c < W1.heap.size → c ≠ w.heap.size → w4.heap[c]? = W1.heap[c]? := fun c h1 h2 => (HX.block c (Nat.lt_of_lt_of_le h1 HB1.out.size) h2).trans (HB1.out.block c h1)
      have hsz := HB.out
      refine ⟨rfl, ⟨q _ (by omega) (by omega), q _ (by omega) (by omega)⟩, ⟨HX.os.trans HB1.out.os, HX.tape.trans HB1.out.tape, HX.output.trans HB1.out.output, Nat.le_trans HB1.out.size HX.size, fun c hc => q c (by omega) (by omega)⟩, ?_⟩
      rw [gatherP_take (hxs k hk)]
      exact HH
  case done =>
    intro W hi hK
    have e4 : W.cell? ⟨w.heap.size + 1, 0, none⟩ = some (.pointer (some ⟨w.heap.size, 0, none⟩)) := by
      obtain ⟨ty, h⟩ := hi.var
      simp only [World.cell?]; rw [h]; rfl
    gi_wp2
    refine ⟨by simp, .inl ⟨_, _, rfl, run_takeDeferred hK, _, results_tmp rfl _ _ _, rfl, ?_⟩⟩
    have := GRound.other hok (b := w2.heap.size) (.deferred none) (by omega) hi
    rwa [← hlen, List.take_length] at this
end Go.Proofs.YtdaecibpkhcllaaGreatDoor
/- Sums, rounded. No condition. -/
namespace Go.Proofs.YtdaecibpkhcllaaGreatDoor
set_option linter.unusedVariables false
set_option linter.unusedSimpArgs false
set_option maxHeartbeats 2000000
/-- The sum, rounded. -/
def Ga.float (g : Ga) (f p r : Int) : Flt × Int :=
  if g.nan then (⟨3, false, 0, 0⟩, 0) else if g.inv || (g.plus && g.minus) then (⟨3, false, 0, 0⟩, 16) else if g.plus || g.minus then (⟨2, g.minus, 0, 0⟩, 0)
  else g.sum.round f p r (g.seen && g.other && (!g.some_ || r == 4))
theorem GFloat_does {f p r : Int} (hf : fmOk f p = true) (hr : 0 ≤ r) (hr' : r ≤ 4) {g : Ga} (hg : g.sum.Ok) : Does Tryz.prog Gv 97 [.c (.x (PtrSx g.cs)), Fm f p, .c (.i .i64 r)] (.t [(g.float f p r).1.pv, .c (.i .i64 (g.float f p r).2)]) := by
  obtain ⟨sum, nan, inv, plus, minus, seen, some_, other⟩ := g
  have hR : ∀ z, Does Tryz.prog Gv 69 [sum.pv, Fm f p, .c (.i .i64 r), .c (.b z)] (.t [(sum.round f p r z).1.pv, .c (.i .i64 (sum.round f p r z).2)]) := fun z => NFloat_does hf hr hr' hg
  generalize hz : Ga.float ⟨sum, nan, inv, plus, minus, seen, some_, other⟩ f p r = z at *
  unfold Ga.float at hz
  simp only [] at hz
  refine Does.of (nt := 78) Tryz.func97 rfl rfl rfl (by simp) ?_
  simp only [argTm, PV.ext, Ce.ext]
  refine Do.turn 0 rfl ?_
  refine Do.seqk fun _ k1_ => ?_
  refine Do.region [0,2,4,6] true ?_
  simp [go_sem]
  apply k1_; clear k1_
  refine Do.seqk fun _ k2_ => ?_
  refine Do.block ?_
  refine Do.seqk fun _ k3_ => ?_
  refine Do.region [0,2,4,6,8] true ?_
  simp [go_sem]
  repeat (refine And.intro (by first | omega | (intros; omega) | (intros; exact And.intro (by assumption) (by omega)) | grind) ?_)
  apply k3_; clear k3_
  refine Do.cond [0,2,4,6] rfl (fun h1 => ?_) (fun h1 => ?_) <;> simp [go_sem] at h1 ⊢
  · refine Do.seqk fun _ k4_ => ?_
    refine Do.region [6,7] true ?_
    simp [go_sem]
    repeat (refine And.intro (by first | omega | (intros; omega) | (intros; exact And.intro (by assumption) (by omega)) | grind) ?_)
    apply k4_; clear k4_
    refine Do.ret ?_
    simp [endQ, rets, ret1, go_sem]
    repeat (refine And.intro (by first | omega | (intros; omega) | (intros; exact And.intro (by assumption) (by omega)) | grind) ?_)
    rw [← hz, if_pos h1]
    exact TLe.t (.cons (PLe.flt (ret_z rfl)) (.cons (PLe.refl _) .nil))
  · refine Do.seqk fun _ k5_ => ?_
    refine Do.region [0,2,4,6,14] true ?_
    simp [go_sem]
    repeat (refine And.intro (by first | omega | (intros; omega) | (intros; exact And.intro (by assumption) (by omega)) | grind) ?_)
    apply k5_; clear k5_
    refine Do.cond [0,2,4,6] rfl (fun h2 => ?_) (fun h2 => ?_) <;> simp [go_sem] at h2 ⊢
    · refine Do.seqk fun _ k6_ => ?_
      refine Do.region [6,7] true ?_
      simp [go_sem]
      repeat (refine And.intro (by first | omega | (intros; omega) | (intros; exact And.intro (by assumption) (by omega)) | grind) ?_)
      apply k6_; clear k6_
      refine Do.ret ?_
      simp [endQ, rets, ret1, go_sem]
      repeat (refine And.intro (by first | omega | (intros; omega) | (intros; exact And.intro (by assumption) (by omega)) | grind) ?_)
      rw [← hz, if_neg (by simp [h1]), if_pos (by simpa using h2)]
      exact TLe.t (.cons (PLe.flt (ret_z rfl)) (.cons (PLe.refl _) .nil))
    · refine Do.seqk fun _ k7_ => ?_
      refine Do.region [0,2,4,6,32] true ?_
      simp [go_sem]
      repeat (refine And.intro (by first | omega | (intros; omega) | (intros; exact And.intro (by assumption) (by omega)) | grind) ?_)
      apply k7_; clear k7_
      refine Do.cond [0,2,4,6] rfl (fun h3 => ?_) (fun h3 => ?_) <;> simp [go_sem] at h3 ⊢
      · refine Do.seqk fun _ k8_ => ?_
        refine Do.region [6,7] true ?_
        simp [go_sem]
        repeat (refine And.intro (by first | omega | (intros; omega) | (intros; exact And.intro (by assumption) (by omega)) | grind) ?_)
        apply k8_; clear k8_
        refine Do.ret ?_
        simp [endQ, rets, ret1, go_sem]
        repeat (refine And.intro (by first | omega | (intros; omega) | (intros; exact And.intro (by assumption) (by omega)) | grind) ?_)
        rw [← hz, if_neg (by simp [h1]), if_neg (by simpa using h2), if_pos (by simpa using h3)]
        exact TLe.t (.cons (PLe.flt (ret_z rfl)) (.cons (PLe.refl _) .nil))
      · refine Do.skip ?_
        simp [go_sem]
        apply k2_; clear k2_
        refine Do.seqk fun _ k9_ => ?_
        refine Do.draw [6,7] true (by kernel_rfl) ?_
        simp [go_sem]
        repeat (refine And.intro (by first | omega | (intros; omega) | (intros; exact And.intro (by assumption) (by omega)) | kernel_rfl | grind) ?_)
        refine DoLD.call true 728 rfl rfl rfl rfl (by first | exact trivial | omega | (simp; done) | (simp; omega)) (hR _) rfl (by first | exact .inl rfl | exact .inr rfl) rfl ?_
        simp [go_sem]
        repeat (refine And.intro (by first | omega | (intros; omega) | (intros; exact And.intro (by assumption) (by omega)) | kernel_rfl | grind) ?_)
        try (refine And.intro (by kernel_rfl) ?_)
        apply k9_; clear k9_
        refine Do.ret ?_
        simp [endQ, rets, ret1, go_sem]
        repeat (refine And.intro (by first | omega | (intros; omega) | (intros; exact And.intro (by assumption) (by omega)) | grind) ?_)
        rw [← hz, if_neg (by simp [h1]), if_neg (by simpa using h2), if_neg (by simpa using h3)]
        exact TLe.refl _
theorem total_does {f p r : Int} (hf : fmOk f p = true) (hr : 0 ≤ r) (hr' : r ≤ 4) {l : List Flt} (hl : l.length < 1099511627776) (hg : GatherOk l) (hs : (gatherP l).sum.Ok) : Does Tryz.prog Gv 49 [Fm f p, .c (.i .i64 r), .s false (l.map Flt.cs)] (.t [((gatherP l).float f p r).1.pv, .c (.i .i64 ((gatherP l).float f p r).2)]) := by
  refine Does.of (nt := 16) Tryz.func49 rfl rfl rfl (by simp) ?_
  simp only [argTm, PV.ext, Ce.ext]
  refine Do.seqk fun _ k1_ => ?_
  refine Do.region [1,2,3,6] true ?_
  simp [go_sem]
  apply k1_; clear k1_
  refine Do.seqk fun _ k2_ => ?_
  refine Do.draw [6,7] true (by kernel_rfl) ?_
  simp [go_sem]
  refine DoLD.call true 102 rfl rfl rfl rfl (by first | exact trivial | omega | (simp; done) | (simp; omega)) (Values_does) rfl (by first | exact .inl rfl | exact .inr rfl) rfl ?_
  simp [go_sem]
  refine DoLD.call true 103 rfl rfl rfl rfl (by first | exact trivial | omega | (simp; done) | (simp; omega)) (gather_does hl hg) rfl (by first | exact .inl rfl | exact .inr rfl) rfl ?_
  simp [go_sem]
  repeat (refine And.intro (by first | omega | (intros; omega) | (intros; exact And.intro (by assumption) (by omega)) | kernel_rfl | grind) ?_)
  refine DoLD.call true 106 rfl rfl rfl rfl (by first | exact trivial | omega | (simp; done) | (simp; omega)) (GFloat_does hf hr hr' hs) rfl (by first | exact .inl rfl | exact .inr rfl) rfl ?_
  simp [go_sem]
  repeat (refine And.intro (by first | omega | (intros; omega) | (intros; exact And.intro (by assumption) (by omega)) | kernel_rfl | grind) ?_)
  try (refine And.intro (by kernel_rfl) ?_)
  apply k2_; clear k2_
  refine Do.ret ?_
  simp [endQ, rets, ret1, go_sem]
  repeat (refine And.intro (by first | omega | (intros; omega) | (intros; exact And.intro (by assumption) (by omega)) | grind) ?_)
  exact TLe.refl _
theorem gather_bound {l : List Flt} (h : ∀ x ∈ l, x.k = 1 → -4194304 ≤ x.e ∧ x.e + bl x.v ≤ 16384) : ∀ i, -4194304 ≤ (gatherP (l.take i)).sum.e ∧ (gatherP (l.take i)).sum.e + bl (gatherP (l.take i)).sum.v ≤ 16384 + min i l.length := by
  intro i
  induction i with
  | zero => simp [gatherP, Ga.zero, bl_zero]
  | succ i ih =>
    cases hx : l[i]? with
    | none =>
      have hl : l.length ≤ i := List.getElem?_eq_none_iff.1 hx
      rw [List.take_of_length_le (by omega)] at ih ⊢
      omega
    | some x =>
      have hi : i < l.length := (List.getElem?_eq_some_iff.1 hx).1
      rw [gatherP_take hx]
      generalize gatherP (l.take i) = g at *
      have hk := h x (List.mem_of_getElem? hx)
      unfold Ga.put
      split
      · simp only []; omega
      · split
        · simp only []; omega
        · split
          · rename_i h1
            have := hk h1
            have := Nu.plus_ok (a := g.sum) (b := ⟨x.n, x.v, x.e⟩) (c := 16384 + min i l.length) ih (by simp only []; omega)
            simp only []; omega
          · simp only []; omega
theorem gather_fine {l : List Flt} (h : ∀ x ∈ l, x.k = 1 → -4194304 ≤ x.e ∧ x.e + bl x.v ≤ 16384) (hl : l.length ≤ 1000) : GatherOk l ∧ (gatherP l).sum.Ok := by
  refine ⟨fun i x hx hk => ?_, ?_⟩
  · have h1 := gather_bound h i
    have h2 := h x (List.mem_of_getElem? hx) hk
    exact ⟨⟨by omega, by omega⟩, by simp only []; omega, by simp only []; omega⟩
  · have h1 := gather_bound h l.length
    rw [List.take_length] at h1
    exact ⟨by omega, by omega⟩
theorem holdsP_bound {f p : Int} (hf : fmOk f p = true) {x : Flt} (h : (holdsP f p x).2 = true) (hk : (holdsP f p x).1.k = 1) : -4194304 ≤ (holdsP f p x).1.e ∧ (holdsP f p x).1.e + bl (holdsP f p x).1.v ≤ 16384 := by
  obtain ⟨b1, b2, b3, b4⟩ := fmOk_spec hf
  obtain ⟨b5, b6⟩ := gOfE_le b1 b2
  unfold holdsP at *
  split at h
  · rename_i hc
    rw [if_pos hc] at hk ⊢
    rw [h] at hc
    simp [hk] at hc
  · rename_i hc
    rw [if_neg hc]
    simp only [Bool.and_eq_true, decide_eq_true_eq] at h ⊢
    omega
theorem heldL_fine {f p : Int} (hf : fmOk f p = true) {l : List Fla} (hh : allHold f p l = true) : ∀ x ∈ heldL f p l, x.k = 1 → -4194304 ≤ x.e ∧ x.e + bl x.v ≤ 16384 := by
  intro y hy hk
  simp only [heldL, List.mem_map] at hy
  obtain ⟨x, hx, rfl⟩ := hy
  exact holdsP_bound hf (by simpa using List.all_eq_true.1 hh x hx) hk
end Go.Proofs.YtdaecibpkhcllaaGreatDoor
/- Total, Add and Sub. No condition. -/
namespace Go.Proofs.YtdaecibpkhcllaaGreatDoor
set_option linter.unusedVariables false
set_option linter.unusedSimpArgs false
set_option maxHeartbeats 2000000
/-- What Total answers: a float, flags, an error. -/
def totalP (f p r : Int) (l : List Fla) : Flt × Int × Int :=
  if argsE f p r (decide ((1000 : Int) < l.length)) l = 0 then (((gatherP (heldL f p l)).float f p r).1, ((gatherP (heldL f p l)).float f p r).2, 0) else (⟨0, false, 0, 0⟩, 0, argsE f p r (decide ((1000 : Int) < l.length)) l)
abbrev Res (x : Flt × Int × Int) : TV := .t [x.1.pv, .c (.i .i64 x.2.1), .c (.i .i64 x.2.2)]
theorem ret_res {k : Int} {n : Bool} {e : Int} {c : Ce} {u v : Int} {x : Flt × Int × Int} (h : PLe (.c c) (.c (.w false (nat x.1.v)))) (h1 : (k, n, e, u, v) = (x.1.k, x.1.n, x.1.e, x.2.1, x.2.2)) : TLe (tvOf [.a [.i .i64 k, .b n, .i .i64 e, c], .c (.i .i64 u), .c (.i .i64 v)]) (Res x) := by
  simp only [Prod.mk.injEq] at h1
  obtain ⟨rfl, rfl, rfl, rfl, rfl⟩ := h1
  exact TLe.t (.cons (PLe.flt h) (.cons (PLe.refl _) (.cons (PLe.refl _) .nil)))
theorem Total_does {f p r : Int} {l : List Fla} (hl : l.length < 1099511627776) (ho : ∀ x ∈ l, x.Ok) : Does Tryz.prog Gv 20 [Fm f p, .c (.i .i64 r), Rows l] (Res (totalP f p r l)) := by
  generalize hz : totalP f p r l = z
  unfold totalP at hz
  by_cases he : argsE f p r (decide ((1000 : Int) < l.length)) l = 0
  · rw [if_pos he] at hz
    have hA := (Args_own hl ho he).does rfl (by simp)
    obtain ⟨h1, h2, h3, h4, h5, h6⟩ := argsE_zero he
    have hll : (heldL f p l).length = l.length := by simp [heldL]
    obtain ⟨hG, hS⟩ := gather_fine (heldL_fine h5 h6) (by simp at h4; omega)
    refine Does.of (nt := 35) Tryz.func20 rfl rfl rfl (by simp) ?_
    simp only [argTm, PV.ext, Ce.ext]
    refine Do.seqk fun _ k1_ => ?_
    refine Do.region [1,2,3,6] true ?_
    simp [go_sem]
    apply k1_; clear k1_
    refine Do.seqk fun _ k2_ => ?_
    refine Do.region [1,2,3,6,9] true ?_
    simp [go_sem]
    repeat (refine And.intro (by first | omega | (intros; omega) | (intros; exact And.intro (by assumption) (by omega)) | grind) ?_)
    refine DoL.call true 107 rfl rfl rfl rfl (by first | exact trivial | omega | (simp; done) | (simp; omega)) (hA) rfl (by first | exact .inl rfl | exact .inr rfl) rfl ?_
    simp [go_sem]
    apply k2_; clear k2_
    refine Do.seqk fun _ k3_ => ?_
    refine Do.seqk fun _ k4_ => ?_
    refine Do.region [1,2,3,6,9,23] true ?_
    simp [go_sem]
    apply k4_; clear k4_
    refine Do.cond [1,2,3,6,9] rfl (fun h => ?_) (fun h => ?_) <;> simp [go_sem] at h ⊢
    refine Do.skip ?_
    simp [go_sem]
    apply k3_; clear k3_
    refine Do.seqk fun _ k5_ => ?_
    refine Do.region [6,10,11] true ?_
    simp [go_sem]
    repeat (refine And.intro (by first | omega | (intros; omega) | (intros; exact And.intro (by assumption) (by omega)) | grind) ?_)
    refine DoL.call true 404 rfl rfl rfl rfl (by first | exact trivial | omega | (simp; done) | (simp; omega)) (total_does h5 h2 h3 (by omega) hG hS) rfl (by first | exact .inl rfl | exact .inr rfl) rfl ?_
    simp [go_sem]
    repeat (refine And.intro (by first | omega | (intros; omega) | (intros; exact And.intro (by assumption) (by omega)) | grind) ?_)
    apply k5_; clear k5_
    refine Do.seqk fun _ k6_ => ?_
    refine Do.region [6,7,8] true ?_
    simp [go_sem]
    repeat (refine And.intro (by first | omega | (intros; omega) | (intros; exact And.intro (by assumption) (by omega)) | grind) ?_)
    apply k6_; clear k6_
    refine Do.ret ?_
    simp [endQ, rets, ret1, go_sem]
    repeat (refine And.intro (by first | omega | (intros; omega) | (intros; exact And.intro (by assumption) (by omega)) | grind) ?_)
    subst hz
    exact TLe.refl _
  · rw [if_neg he] at hz
    have hA := Args_err hl ho he
    refine Does.of (nt := 35) Tryz.func20 rfl rfl rfl (by simp) ?_
    simp only [argTm, PV.ext, Ce.ext]
    refine Do.seqk fun _ k1_ => ?_
    refine Do.region [1,2,3,6] true ?_
    simp [go_sem]
    apply k1_; clear k1_
    refine Do.seqk fun _ k2_ => ?_
    refine Do.region [1,2,3,6,9] true ?_
    simp [go_sem]
    repeat (refine And.intro (by first | omega | (intros; omega) | (intros; exact And.intro (by assumption) (by omega)) | grind) ?_)
    refine DoL.call true 107 rfl rfl rfl rfl (by first | exact trivial | omega | (simp; done) | (simp; omega)) (hA) rfl (by first | exact .inl rfl | exact .inr rfl) rfl ?_
    simp [go_sem]
    apply k2_; clear k2_
    refine Do.seqk fun _ k3_ => ?_
    refine Do.seqk fun _ k4_ => ?_
    refine Do.region [1,2,3,6,9,23] true ?_
    simp [go_sem]
    apply k4_; clear k4_
    refine Do.cond [1,2,3,6,9] rfl (fun h => ?_) (fun h => ?_) <;> simp [go_sem] at h ⊢
    · refine Do.seqk fun _ k5_ => ?_
      refine Do.region [6,7,8] true ?_
      simp [go_sem]
      repeat (refine And.intro (by first | omega | (intros; omega) | (intros; exact And.intro (by assumption) (by omega)) | grind) ?_)
      apply k5_; clear k5_
      refine Do.ret ?_
      simp [endQ, rets, ret1, go_sem]
      repeat (refine And.intro (by first | omega | (intros; omega) | (intros; exact And.intro (by assumption) (by omega)) | grind) ?_)
      subst hz
      exact ret_res (ret_z rfl) rfl
    · exact absurd h he
theorem SAdd_does {f p r : Int} {x y : Fla} (hx : x.Ok) (hy : y.Ok) : Does Tryz.prog Gv 12 [Fm f p, .c (.i .i64 r), Fl x.k x.n x.e x.m, Fl y.k y.n y.e y.m] (Res (totalP f p r [x, y])) := by
  have hT : Does Tryz.prog Gv 20 [Fm f p, .c (.i .i64 r), .s false [x.cs, y.cs]] (Res (totalP f p r [x, y])) := Total_does (l := [x, y]) (by simp) (by simp [hx, hy])
  generalize totalP f p r [x, y] = z at *
  refine Does.of (nt := 20) Tryz.func12 rfl rfl rfl (by simp) ?_
  simp only [argTm, PV.ext, Ce.ext]
  refine Do.seqk fun _ k1_ => ?_
  refine Do.region [1,4,6,7,8] true ?_
  simp [go_sem]
  apply k1_; clear k1_
  refine Do.seqk fun _ k2_ => ?_
  refine Do.region [8,9,10] true ?_
  simp [go_sem]
  repeat (refine And.intro (by first | omega | (intros; omega) | (intros; exact And.intro (by assumption) (by omega)) | grind) ?_)
  refine DoL.sealS true 105 104 rfl ?_
  simp [go_sem]
  refine DoL.call true 106 rfl rfl rfl rfl (by first | exact trivial | omega | (simp; done) | (simp; omega)) (hT) rfl (by first | exact .inl rfl | exact .inr rfl) rfl ?_
  simp [go_sem]
  repeat (refine And.intro (by first | omega | (intros; omega) | (intros; exact And.intro (by assumption) (by omega)) | grind) ?_)
  apply k2_; clear k2_
  refine Do.ret ?_
  simp [endQ, rets, ret1, go_sem]
  repeat (refine And.intro (by first | omega | (intros; omega) | (intros; exact And.intro (by assumption) (by omega)) | grind) ?_)
  exact TLe.refl _
/-- The float with the other sign. -/
def Flt.neg (x : Flt) : Flt := ⟨x.k, x.k != 3 && !x.n, x.e, x.v⟩
/-- What Sub answers. -/
def subP (f p r : Int) (x y : Fla) : Flt × Int × Int :=
  if argsE f p r false [x, y] = 0 then (((gatherP [(holdsP f p x.flt).1, (holdsP f p y.flt).1.neg]).float f p r).1, ((gatherP [(holdsP f p x.flt).1, (holdsP f p y.flt).1.neg]).float f p r).2, 0) else (⟨0, false, 0, 0⟩, 0, argsE f p r false [x, y])
theorem SSub_does {f p r : Int} {x y : Fla} (hx : x.Ok) (hy : y.Ok) : Does Tryz.prog Gv 13 [Fm f p, .c (.i .i64 r), Fl x.k x.n x.e x.m, Fl y.k y.n y.e y.m] (Res (subP f p r x y)) := by
  generalize hz : subP f p r x y = z
  unfold subP at hz
  have hl : [x, y].length < 1099511627776 := by simp
  have ho : ∀ u ∈ [x, y], u.Ok := by simp [hx, hy]
  by_cases he : argsE f p r false [x, y] = 0
  · rw [if_pos he] at hz
    have hA : DoesO Tryz.prog Gv 48 [Fm f p, .c (.i .i64 r), .c (.b false), .s false [x.cs, y.cs]] 4 [(holdsP f p x.flt).1.cs, (holdsP f p y.flt).1.cs] [.c (.i .i64 0)] := Args_own hl ho he
    obtain ⟨h1, h2, h3, h4, h5, h6⟩ := argsE_zero he
    have hfine := heldL_fine h5 h6
    simp only [heldL, List.map_cons, List.map_nil, List.mem_cons, List.not_mem_nil, or_false, forall_eq_or_imp, forall_eq] at hfine
    generalize (holdsP f p x.flt).1 = u at *
    generalize (holdsP f p y.flt).1 = v at *
    obtain ⟨hG, hS⟩ := gather_fine (l := [u, v.neg]) (by simp only [List.mem_cons, List.not_mem_nil, or_false, forall_eq_or_imp, forall_eq]; exact hfine) (by simp)
    have hT : Does Tryz.prog Gv 49 [Fm f p, .c (.i .i64 r), .s false [u.cs, v.neg.cs]] (.t [((gatherP [u, v.neg]).float f p r).1.pv, .c (.i .i64 ((gatherP [u, v.neg]).float f p r).2)]) := total_does (l := [u, v.neg]) h5 h2 h3 (by simp) hG hS
    refine Does.of (nt := 52) Tryz.func13 rfl rfl rfl (by simp) ?_
    simp only [argTm, PV.ext, Ce.ext]
    refine Do.seqk fun _ k1_ => ?_
    refine Do.region [1,4,6,7,8] true ?_
    simp [go_sem]
    apply k1_; clear k1_
    refine Do.seqk fun _ k2_ => ?_
    refine Do.region [1,4,8,11,12] true ?_
    simp [go_sem]
    repeat (refine And.intro (by first | omega | (intros; omega) | (intros; exact And.intro (by assumption) (by omega)) | grind) ?_)
    refine DoL.sealS true 105 104 rfl ?_
    simp [go_sem]
    refine DoL.callO true 106 3000 rfl rfl rfl rfl (by first | exact trivial | omega | (simp; done) | (simp; omega)) (hA) rfl rfl rfl ?_
    simp [go_sem]
    apply k2_; clear k2_
    refine Do.seqk fun _ k3_ => ?_
    refine Do.seqk fun _ k4_ => ?_
    refine Do.region [1,4,8,11,12,25] true ?_
    simp [go_sem]
    apply k4_; clear k4_
    refine Do.cond [1,4,8,11,12] rfl (fun h => ?_) (fun h => ?_) <;> simp [go_sem] at h ⊢
    refine Do.skip ?_
    simp [go_sem]
    apply k3_; clear k3_
    refine Do.seqk fun _ k5_ => ?_
    refine Do.region [1,4,8,11] true ?_
    simp [go_sem]
    repeat (refine And.intro (by first | omega | (intros; omega) | (intros; exact And.intro (by assumption) (by omega)) | grind) ?_)
    apply k5_; clear k5_
    refine Do.seqk fun _ k6_ => ?_
    refine Do.region [8,13,14] true ?_
    simp [go_sem]
    repeat (refine And.intro (by first | omega | (intros; omega) | (intros; exact And.intro (by assumption) (by omega)) | grind) ?_)
    refine DoL.sealS true 504 3000 rfl ?_
    simp [go_sem]
    refine DoL.call true 504 rfl rfl rfl rfl (by first | exact trivial | omega | (simp; done) | (simp; omega)) (hT) rfl (by first | exact .inl rfl | exact .inr rfl) rfl ?_
    simp [go_sem]
    repeat (refine And.intro (by first | omega | (intros; omega) | (intros; exact And.intro (by assumption) (by omega)) | grind) ?_)
    apply k6_; clear k6_
    refine Do.seqk fun _ k7_ => ?_
    refine Do.region [8,9,10] true ?_
    simp [go_sem]
    repeat (refine And.intro (by first | omega | (intros; omega) | (intros; exact And.intro (by assumption) (by omega)) | grind) ?_)
    apply k7_; clear k7_
    refine Do.ret ?_
    simp [endQ, rets, ret1, go_sem]
    repeat (refine And.intro (by first | omega | (intros; omega) | (intros; exact And.intro (by assumption) (by omega)) | grind) ?_)
    subst hz
    exact TLe.refl _
  · rw [if_neg he] at hz
    have hA : Does Tryz.prog Gv 48 [Fm f p, .c (.i .i64 r), .c (.b false), .s false [x.cs, y.cs]] (.t [.c .z, .c (.i .i64 (argsE f p r false [x, y]))]) := Args_err hl ho he
    refine Does.of (nt := 52) Tryz.func13 rfl rfl rfl (by simp) ?_
    simp only [argTm, PV.ext, Ce.ext]
    refine Do.seqk fun _ k1_ => ?_
    refine Do.region [1,4,6,7,8] true ?_
    simp [go_sem]
    apply k1_; clear k1_
    refine Do.seqk fun _ k2_ => ?_
    refine Do.region [1,4,8,11,12] true ?_
    simp [go_sem]
    repeat (refine And.intro (by first | omega | (intros; omega) | (intros; exact And.intro (by assumption) (by omega)) | grind) ?_)
    refine DoL.sealS true 105 104 rfl ?_
    simp [go_sem]
    refine DoL.call true 106 rfl rfl rfl rfl (by first | exact trivial | omega | (simp; done) | (simp; omega)) (hA) rfl (by first | exact .inl rfl | exact .inr rfl) rfl ?_
    simp [go_sem]
    apply k2_; clear k2_
    refine Do.seqk fun _ k3_ => ?_
    refine Do.seqk fun _ k4_ => ?_
    refine Do.region [1,4,8,11,12,25] true ?_
    simp [go_sem]
    apply k4_; clear k4_
    refine Do.cond [1,4,8,11,12] rfl (fun h => ?_) (fun h => ?_) <;> simp [go_sem] at h ⊢
    · refine Do.seqk fun _ k5_ => ?_
      refine Do.region [8,9,10] true ?_
      simp [go_sem]
      repeat (refine And.intro (by first | omega | (intros; omega) | (intros; exact And.intro (by assumption) (by omega)) | grind) ?_)
      apply k5_; clear k5_
      refine Do.ret ?_
      simp [endQ, rets, ret1, go_sem]
      repeat (refine And.intro (by first | omega | (intros; omega) | (intros; exact And.intro (by assumption) (by omega)) | grind) ?_)
      subst hz
      exact ret_res (ret_z rfl) rfl
    · exact absurd h he
end Go.Proofs.YtdaecibpkhcllaaGreatDoor
/- Digits of 32 bits, words of 64 bits. No condition. -/
namespace Go.Proofs.YtdaecibpkhcllaaGreatDoor
set_option linter.unusedVariables false
set_option linter.unusedSimpArgs false
/-- The lowest k digits of n, of 32 bits each. -/
def dg : Nat → Nat → List Nat
  | _, 0 => []
  | n, k + 1 => n % 4294967296 :: dg (n / 4294967296) k
/-- The lowest k words of n. -/
def wds : Nat → Nat → List Nat
  | _, 0 => []
  | n, k + 1 => n % 18446744073709551616 :: wds (n / 18446744073709551616) k
theorem dg_len : ∀ (k n : Nat), (dg n k).length = k
  | 0, _ => rfl
  | k + 1, n => by simp [dg, dg_len k]
theorem wds_len : ∀ (k n : Nat), (wds n k).length = k
  | 0, _ => rfl
  | k + 1, n => by simp [wds, wds_len k]
theorem dg_get : ∀ {k n i : Nat}, i < k → (dg n k)[i]? = some (n / 4294967296 ^ i % 4294967296)
  | k + 1, n, 0, _ => by simp [dg]
  | k + 1, n, i + 1, h => by
    simp only [dg, List.getElem?_cons_succ]
    rw [dg_get (by omega), Nat.div_div_eq_div_mul, Nat.pow_succ, Nat.mul_comm]
theorem wds_get : ∀ {k n i : Nat}, i < k → (wds n k)[i]? = some (n / 18446744073709551616 ^ i % 18446744073709551616)
  | k + 1, n, 0, _ => by simp [wds]
  | k + 1, n, i + 1, h => by
    simp only [wds, List.getElem?_cons_succ]
    rw [wds_get (by omega), Nat.div_div_eq_div_mul, Nat.pow_succ, Nat.mul_comm]
theorem dg_snoc : ∀ (k n : Nat), dg n (k + 1) = dg n k ++ [n / 4294967296 ^ k % 4294967296]
  | 0, n => by simp [dg]
  | k + 1, n => by
    rw [dg, dg_snoc k, dg, Nat.div_div_eq_div_mul, Nat.pow_succ, Nat.mul_comm (4294967296 ^ k)]; rfl
theorem wds_snoc : ∀ (k n : Nat), wds n (k + 1) = wds n k ++ [n / 18446744073709551616 ^ k % 18446744073709551616]
  | 0, n => by simp [wds]
  | k + 1, n => by
    rw [wds, wds_snoc k, wds, Nat.div_div_eq_div_mul, Nat.pow_succ, Nat.mul_comm (18446744073709551616 ^ k)]; rfl
theorem dg_take {j : Nat} : ∀ {k n : Nat}, j ≤ k → (dg n k).take j = dg n j := by
  induction j with
  | zero => intro k n _; simp [dg]
  | succ j ih =>
    intro k n h
    obtain ⟨k, rfl⟩ : ∃ m, k = m + 1 := ⟨k - 1, by omega⟩
    simp only [dg, List.take_succ_cons, ih (show j ≤ k by omega)]
theorem wds_ws : ∀ (k n : Nat), Ws (wds n k)
  | 0, _ => by simp [wds, Ws]
  | k + 1, n => by rw [wds, Ws.cons]; exact ⟨Nat.mod_lt _ (by decide), wds_ws k _⟩
theorem val_wds : ∀ (k n : Nat), val (wds n k) = n % 18446744073709551616 ^ k
  | 0, n => by simp [wds, val, Nat.mod_one]
  | k + 1, n => by
    rw [wds, val, val_wds k, Nat.pow_succ, Nat.mul_comm (18446744073709551616 ^ k), Nat.mod_mul]
theorem wds_of {x : List Nat} (h : Ws x) : wds (val x) x.length = x := by
  induction x with
  | nil => rfl
  | cons w l ih =>
    rw [Ws.cons] at h
    simp only [val, List.length_cons, wds]
    rw [show (w + 18446744073709551616 * val l) % 18446744073709551616 = w by omega, show (w + 18446744073709551616 * val l) / 18446744073709551616 = val l by omega, ih h.2]
theorem ws_get {x : List Nat} (h : Ws x) {i : Nat} (hi : i < x.length) : x[i]? = some (val x / 18446744073709551616 ^ i % 18446744073709551616) := by
  have := wds_get (n := val x) hi
  rwa [wds_of h] at this
theorem HB (i : Nat) : (18446744073709551616 : Nat) ^ i = 4294967296 ^ (2 * i) := by
  rw [Nat.pow_mul]
theorem dg_two (n i : Nat) : dg n (2 * (i + 1)) = dg n (2 * i) ++ [n / 18446744073709551616 ^ i % 18446744073709551616 % 4294967296, n / 18446744073709551616 ^ i % 18446744073709551616 / 4294967296] := by
  rw [show 2 * (i + 1) = 2 * i + 1 + 1 by omega, dg_snoc, dg_snoc, HB, Nat.pow_succ, ← Nat.div_div_eq_div_mul]
  generalize n / 4294967296 ^ (2 * i) = m
  rw [show m % 18446744073709551616 % 4294967296 = m % 4294967296 by omega, show m % 18446744073709551616 / 4294967296 = m / 4294967296 % 4294967296 by omega]
  simp
theorem word_two (n i : Nat) : n / 4294967296 ^ (2 * i) % 4294967296 + n / 4294967296 ^ (2 * i + 1) % 4294967296 * 4294967296 = n / 18446744073709551616 ^ i % 18446744073709551616 := by
  rw [HB, Nat.pow_succ, ← Nat.div_div_eq_div_mul]
  generalize n / 4294967296 ^ (2 * i) = m
  omega
theorem dg_lt {n k i : Nat} (h : n < 4294967296 ^ k) (hi : k ≤ i) : n / 4294967296 ^ i % 4294967296 = 0 := by
  rw [Nat.div_eq_of_lt (Nat.lt_of_lt_of_le h (Nat.pow_le_pow_right (by decide) hi))]
theorem nat_wds : ∀ {k n : Nat}, n < 18446744073709551616 ^ k → (0 < k → 18446744073709551616 ^ (k - 1) ≤ n) → wds n k = nat n
  | 0, n, h, _ => by
    have : n = 0 := by simpa using h
    subst this; simp [wds, nat]
  | k + 1, n, h, h2 => by
    have hn : n ≠ 0 := by have := h2 (by omega); have := Nat.pow_pos (n := k + 1 - 1) (show 0 < 18446744073709551616 by decide); omega
    unfold nat
    rw [dif_neg hn, wds, nat_wds (by rw [Nat.pow_succ] at h; rw [Nat.div_lt_iff_lt_mul (by decide)]; exact h) (fun hk => ?_)]
    have h3 := h2 (by omega)
    obtain ⟨j, rfl⟩ : ∃ j, k = j + 1 := ⟨k - 1, by omega⟩
    simp only [Nat.add_sub_cancel] at h3 ⊢
    rw [Nat.le_div_iff_mul_le (by decide), ← Nat.pow_succ]; exact h3
/-- How many digits n has. -/
def dl (n : Nat) : Nat := (bl n + 31) / 32
theorem dl_lt {n k : Nat} : dl n ≤ k ↔ n < 4294967296 ^ k := by
  have : (4294967296 : Nat) ^ k = 2 ^ (32 * k) := by rw [Nat.pow_mul]
  rw [this, ← bl_lt, dl]; omega
theorem dl_top {n : Nat} (h : 0 < dl n) : n / 4294967296 ^ (dl n - 1) % 4294967296 ≠ 0 := by
  intro h0
  have h1 := (dl_lt (n := n) (k := dl n)).1 (Nat.le_refl _)
  have h2 : ¬ n < 4294967296 ^ (dl n - 1) := fun h => by have := dl_lt.2 h; omega
  obtain ⟨k, hk⟩ : ∃ k, dl n = k + 1 := ⟨dl n - 1, by omega⟩
  rw [hk] at h0 h1 h2
  simp only [Nat.add_sub_cancel] at h0 h2
  have h3 : n / 4294967296 ^ k < 4294967296 := by rw [Nat.div_lt_iff_lt_mul (Nat.pow_pos (by decide))]; rw [Nat.pow_succ, Nat.mul_comm] at h1; exact h1
  rw [Nat.mod_eq_of_lt h3, Nat.div_eq_zero_iff] at h0
  rcases h0 with h0 | h0
  · have := Nat.pow_pos (n := k) (show 0 < 4294967296 by decide); omega
  · exact h2 h0
theorem dg_eq_zero {n k : Nat} (h : n < 4294967296 ^ k) (hz : n / 4294967296 ^ (k - 1) % 4294967296 = 0) (hk : 0 < k) : n < 4294967296 ^ (k - 1) := by
  apply Classical.byContradiction
  intro hn
  have h1 : dl n ≤ k := dl_lt.2 h
  have h2 : ¬ dl n ≤ k - 1 := fun h => hn (dl_lt.1 h)
  have h3 : dl n = k := by omega
  subst h3
  exact dl_top hk hz
theorem nat_dl (n : Nat) : wds n ((dl n + 1) / 2) = nat n := by
  refine nat_wds ?_ fun h => ?_
  · rw [B64_pow, ← bl_lt, dl]; omega
  · rw [B64_pow, ← bl_le, dl]
    rw [dl] at h; omega
theorem natlen (n : Nat) : (nat n).length = (bl n + 63) / 64 := by
  rw [← nat_dl, wds_len, dl]; omega
theorem dg_pair {n k i : Nat} (h : 2 * i + 1 < k) : ∃ a b, (dg n k)[2 * i]? = some a ∧ (dg n k)[2 * i + 1]? = some b ∧ a < 4294967296 ∧ b < 4294967296 ∧ a + b * 4294967296 = n / 18446744073709551616 ^ i % 18446744073709551616 :=
  ⟨_, _, dg_get (by omega), dg_get h, Nat.mod_lt _ (by decide), Nat.mod_lt _ (by decide), word_two n i⟩
end Go.Proofs.YtdaecibpkhcllaaGreatDoor
/- The digits of the reference. No condition. -/
namespace Go.Proofs.YtdaecibpkhcllaaGreatDoor
set_option linter.unusedVariables false
set_option linter.unusedSimpArgs false
variable {G : Gl}
set_option maxHeartbeats 2000000
attribute [go_sem] dg_len wds_len
theorem Digits_does {x : List Nat} (hx : x.length ≤ 1073741824) (hw : Ws x) : Does Tryz.prog G 120 [Wd x] (.v (Wn (dg (val x) (2 * x.length)))) := by
  refine Does.of (nt := 25) Tryz.func120 rfl rfl rfl (by simp) ?_
  simp only [argTm, PV.ext, Ce.ext]
  refine Do.seqk fun _ k1_ => ?_
  refine Do.region [0] true ?_
  simp [go_sem]
  apply k1_; clear k1_
  refine Do.seqk fun _ k2_ => ?_
  refine Do.region [0,3] true ?_
  simp [go_sem]
  apply k2_; clear k2_
  refine Do.seqk fun _ k3_ => ?_
  refine Do.seqk fun _ k4_ => ?_
  refine Do.region [0,3,4] true ?_
  simp [go_sem]
  apply k4_; clear k4_
  refine Do.block ?_
  refine Do.ownW 3 900 rfl rfl (by decide) ?_
  simp [go_sem]
  refine Do.loopF [0,3,4] (fun (i : Nat) => [(3, .v (.c (.r 900 (2 * i)))), (4, .int .i64 i)]) (fun (i : Nat) => [(900, .wr (dg (val x) (2 * i)))]) (fun (i : Nat) => i ≤ x.length) (fun (i : Nat) => x.length - i) (0) (fun _ => by first | (simp [go_sem, mixS]; done) | (simp [go_sem, mixS]; rfl)) (St.le_of (by first | rfl | simp [keep]) (by first | rfl | simp [keep])) (Nat.zero_le _) ?_
  intro i hi
  refine Do.seqk fun _ k5_ => ?_
  refine Do.seqk fun _ k6_ => ?_
  refine Do.region [0,3,4,8] true ?_
  simp [go_sem]
  repeat (refine And.intro (by first | omega | (intros; omega) | (intros; exact And.intro (by assumption) (by omega)) | grind) ?_)
  apply k6_; clear k6_
  refine Do.cond [0,3,4] rfl (fun h => ?_) (fun h => ?_) <;> simp [go_sem] at h ⊢
  · have hg := ws_get hw h
    refine Do.skip ?_
    simp [go_sem]
    apply k5_; clear k5_
    refine Do.seqk fun _ k7_ => ?_
    refine Do.block ?_
    refine Do.draw [0,3,4] true (by kernel_rfl) ?_
    simp [go_sem, hg]
    repeat (refine And.intro (by first | omega | (intros; omega) | (intros; exact And.intro (by assumption) (by omega)) | kernel_rfl | grind) ?_)
    try (refine And.intro (by kernel_rfl) ?_)
    apply k7_; clear k7_
    refine Do.region [0,3,4] true ?_
    simp [go_sem, hg]
    repeat (refine And.intro (by first | omega | (intros; omega) | (intros; exact And.intro (by assumption) (by omega)) | grind) ?_)
    refine ⟨i + 1, St.le_of rfl (by simp [keep, dg_two]), by omega, by simp; omega⟩
  · refine Do.exit ?_
    simp [go_sem]
    apply k3_; clear k3_
    refine Do.seqk fun _ k8_ => ?_
    refine Do.region [2] true ?_
    simp [go_sem]
    apply k8_; clear k8_
    refine Do.ret ?_
    simp [endQ, rets, ret1, go_sem]
    repeat (refine And.intro (by first | omega | (intros; omega) | (intros; exact And.intro (by assumption) (by omega)) | grind) ?_)
    have e : i = x.length := by omega
    subst e
    exact TLe.refl _
theorem Short_does {n k : Nat} (hk : k ≤ 4294967296) (h : n < 4294967296 ^ k) : Does Tryz.prog G 156 [Wd (dg n k)] (.v (Wd (dg n (dl n)))) := by
  refine Does.of (nt := 21) Tryz.func156 rfl rfl rfl (by simp) ?_
  simp only [argTm, PV.ext, Ce.ext]
  refine Do.seqk fun _ k1_ => ?_
  refine Do.region [0] true ?_
  simp [go_sem]
  apply k1_; clear k1_
  refine Do.seqk fun _ k2_ => ?_
  refine Do.region [0,3] true ?_
  simp [go_sem]
  repeat (refine And.intro (by first | omega | (intros; omega) | (intros; exact And.intro (by assumption) (by omega)) | grind) ?_)
  apply k2_; clear k2_
  refine Do.seqk fun _ k3_ => ?_
  refine Do.block ?_
  refine Do.loopF [0,3] (fun (i : Nat) => [(3, .int .i64 i)]) (fun (i : Nat) => []) (fun (i : Nat) => i ≤ k ∧ n < 4294967296 ^ i) (fun (i : Nat) => i) (k) (fun _ => by first | (simp [go_sem, mixS]; done) | (simp [go_sem, mixS]; rfl)) (St.le_of (by first | rfl | simp [keep]) (by first | rfl | simp [keep])) (⟨Nat.le_refl _, h⟩) ?_
  rintro i ⟨hi, hn⟩
  refine Do.seqk fun _ k4_ => ?_
  refine Do.seqk fun _ k5_ => ?_
  refine Do.region [0,3,15] true ?_
  simp [go_sem]
  repeat (refine And.intro (by first | omega | (intros; omega) | (intros; exact And.intro (by assumption) (by omega)) | grind) ?_)
  apply k5_; clear k5_
  refine Do.cond [0,3] rfl (fun h2 => ?_) (fun h2 => ?_) <;> simp [go_sem] at h2 ⊢
  · rw [dg_get (by omega)] at h2
    refine Do.skip ?_
    simp [go_sem]
    apply k4_; clear k4_
    refine Do.block ?_
    refine Do.region [0,3] true ?_
    simp [go_sem]
    repeat (refine And.intro (by first | omega | (intros; omega) | (intros; exact And.intro (by assumption) (by omega)) | grind) ?_)
    refine ⟨i - 1, St.le_of (by simp [keep]; omega) rfl, ⟨by omega, dg_eq_zero hn (by simpa using h2.2) h2.1⟩, by simp; omega⟩
  · refine Do.exit ?_
    simp [go_sem]
    apply k3_; clear k3_
    refine Do.seqk fun _ k6_ => ?_
    refine Do.region [2] true ?_
    simp [go_sem]
    repeat (refine And.intro (by first | omega | (intros; omega) | (intros; exact And.intro (by assumption) (by omega)) | grind) ?_)
    apply k6_; clear k6_
    refine Do.ret ?_
    simp [endQ, rets, ret1, go_sem]
    repeat (refine And.intro (by first | omega | (intros; omega) | (intros; exact And.intro (by assumption) (by omega)) | grind) ?_)
    have e : dl n = i := by
      have h3 := dl_lt.2 hn
      apply Classical.byContradiction
      intro h4
      have h5 := h2 (by omega)
      rw [dg_get (by omega), dg_lt (dl_lt.1 (Nat.le_refl _)) (by omega)] at h5
      exact h5 rfl
    rw [dg_take hi, e]
    exact TLe.refl _
theorem Row_does {n k : Nat} (hk : k ≤ 4294967296) : Does Tryz.prog G 170 [Wd (dg n k)] (.v (Wn (wds n (k / 2)))) := by
  refine Does.of (nt := 27) Tryz.func170 rfl rfl rfl (by simp) ?_
  simp only [argTm, PV.ext, Ce.ext]
  refine Do.seqk fun _ k1_ => ?_
  refine Do.region [0] true ?_
  simp [go_sem]
  apply k1_; clear k1_
  refine Do.seqk fun _ k2_ => ?_
  refine Do.region [0,3] true ?_
  simp [go_sem]
  apply k2_; clear k2_
  refine Do.seqk fun _ k3_ => ?_
  refine Do.seqk fun _ k4_ => ?_
  refine Do.region [0,3,4] true ?_
  simp [go_sem]
  apply k4_; clear k4_
  refine Do.block ?_
  refine Do.ownW 3 900 rfl rfl (by decide) ?_
  simp [go_sem]
  refine Do.loopF [0,3,4] (fun (i : Nat) => [(3, .v (.c (.r 900 i))), (4, .int .i64 (2 * i))]) (fun (i : Nat) => [(900, .wr (wds n i))]) (fun (i : Nat) => 2 * i ≤ k) (fun (i : Nat) => k - i) (0) (fun _ => by first | (simp [go_sem, mixS]; done) | (simp [go_sem, mixS]; rfl)) (St.le_of (by first | rfl | simp [keep]) (by first | rfl | simp [keep])) (Nat.zero_le _) ?_
  intro i hi
  refine Do.seqk fun _ k5_ => ?_
  refine Do.seqk fun _ k6_ => ?_
  refine Do.region [0,3,4,9] true ?_
  simp [go_sem]
  repeat (refine And.intro (by first | omega | (intros; omega) | (intros; exact And.intro (by assumption) (by omega)) | grind) ?_)
  apply k6_; clear k6_
  refine Do.cond [0,3,4] rfl (fun h => ?_) (fun h => ?_) <;> simp [go_sem] at h ⊢
  · obtain ⟨a, b, hg1, hg2, ha, hb, hab⟩ := dg_pair (n := n) (k := k) (i := i) (by omega)
    refine Do.skip ?_
    simp [go_sem]
    apply k5_; clear k5_
    refine Do.seqk fun _ k7_ => ?_
    refine Do.block ?_
    refine Do.draw [0,3,4] true (by kernel_rfl) ?_
    simp [go_sem, hg1, hg2, show ((2 : Int) * i).toNat = 2 * i by omega, show ((2 : Int) * i + 1).toNat = 2 * i + 1 by omega]
    repeat (refine And.intro (by first | omega | (intros; omega) | (intros; exact And.intro (by assumption) (by omega)) | kernel_rfl | grind) ?_)
    try (refine And.intro (by kernel_rfl) ?_)
    apply k7_; clear k7_
    refine Do.region [0,3,4] true ?_
    simp [go_sem, hg1, hg2, show ((2 : Int) * i).toNat = 2 * i by omega, show ((2 : Int) * i + 1).toNat = 2 * i + 1 by omega]
    repeat (refine And.intro (by first | omega | (intros; omega) | (intros; exact And.intro (by assumption) (by omega)) | grind) ?_)
    refine ⟨i + 1, St.le_of (by simp [keep]; omega) (by simp [keep, wds_snoc, hab]), by omega, by simp; omega⟩
  · refine Do.exit ?_
    simp [go_sem]
    apply k3_; clear k3_
    refine Do.seqk fun _ k8_ => ?_
    refine Do.region [2] true ?_
    simp [go_sem]
    apply k8_; clear k8_
    refine Do.ret ?_
    simp [endQ, rets, ret1, go_sem]
    repeat (refine And.intro (by first | omega | (intros; omega) | (intros; exact And.intro (by assumption) (by omega)) | grind) ?_)
    rw [show k / 2 = i by omega]
    exact TLe.refl _
end Go.Proofs.YtdaecibpkhcllaaGreatDoor
