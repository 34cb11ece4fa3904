/- Sums of numbers, and rounding. No condition. Rounding. No condition. What a rounding cuts off. No condition. The limits of a format. No condition. Rounding to a format. No condition. Rounding a number. No condition. Lists of floats. No condition. The canonical floats of a list. No condition. The canonical floats of a list. No condition. -/
import Derived.Test.YtbhokdhkfodpfaaGreatDoorMe
import Derived.Test.YtbhokdhkfodpfaaGreatDoorMd
/- Sums of numbers, and rounding. No condition. -/
namespace Go.Proofs.YtbhokdhkfodpfaaGreatDoor
set_option linter.unusedVariables false
set_option linter.unusedSimpArgs false
variable {G : Gl}
set_option maxHeartbeats 1000000
/-- A sum. -/
def Nu.plus (a b : Nu) : Nu :=
  if a.v = 0 then b else if b.v = 0 then a else
  let e := if b.e < a.e then b.e else a.e
  let x := a.v * 2 ^ (a.e - e).toNat
  let y := b.v * 2 ^ (b.e - e).toNat
  if a.n = b.n then ⟨a.n, x + y, e⟩ else if y ≤ x then ⟨a.n, x - y, e⟩ else ⟨b.n, y - x, e⟩
theorem PLe.nu {n : Bool} {e : Int} {c : Ce} {m : List Nat} (h : PLe (.c c) (.c (.w false m))) : PLe (.a [.b n, c, .i .i64 e]) (Nm n m e) := by
  rintro E v ⟨vs, h1, h2⟩
  refine ⟨vs, h1, ?_⟩
  obtain ⟨v1, r1, e1, a1, h2⟩ := h2.cons_iff
  obtain ⟨v2, r2, rfl, a2, h2⟩ := h2.cons_iff
  rw [e1]
  exact .cons a1 (.cons (h _ _ a2) h2)
theorem bl_mul_pow (v k : Nat) (h : 0 < v) : bl (v * 2 ^ k) = k + bl v := by
  have := bl_add (lo := 0) (hi := v) (m := k) (Nat.pow_pos (by omega)) h
  rwa [Nat.zero_add, Nat.mul_comm] at this
theorem bl_add_le (x y k : Nat) (hx : bl x ≤ k) (hy : bl y ≤ k) : bl (x + y) ≤ k + 1 := by
  rw [bl_lt] at *
  rw [Nat.pow_succ]; omega
theorem bl_mono {x y : Nat} (h : x ≤ y) : bl x ≤ bl y := (bl_lt _ _).2 (Nat.lt_of_le_of_lt h (bl_self y))
theorem Plus_does {a b : Nu} (ha : a.Ok) (hb : b.Ok) : Does Tryz.prog G 90 [a.pv, b.pv] (.v (a.plus b).pv) := by
  obtain ⟨an, av, ae⟩ := a
  obtain ⟨bn, bv, be⟩ := b
  have hla := ha.len
  have hlb := hb.len
  obtain ⟨a1, a2⟩ := ha
  obtain ⟨b1, b2⟩ := hb
  simp only [] at a1 a2 b1 b2 hla hlb
  unfold Nu.plus
  simp only []
  refine Does.of (nt := 65) (Tryz.func90) rfl rfl rfl (by simp) ?_
  simp only [argTm, PV.ext, Ce.ext]
  repeat (refine Do.seqk fun _ _ => ?_)
  refine Do.region [2,3,4] true ?_
  simp [go_sem]
  repeat (refine And.intro (by first | omega | (intros; omega) | (intros; exact And.intro (by assumption) (by omega))) ?_)
  apply_assumption -exfalso -symm
  repeat (refine Do.seqk fun _ _ => ?_)
  refine Do.region [2,3,4,9] true ?_
  simp [go_sem]
  repeat (refine And.intro (by first | omega | (intros; omega) | (intros; exact And.intro (by assumption) (by omega))) ?_)
  refine DoL.call true 0 rfl rfl rfl rfl (by first | exact trivial | omega | (simp; done) | (simp; omega)) (NZero_does (m := nat av) (by omega)) rfl (by first | exact .inl rfl | exact .inr rfl) rfl ?_
  simp [go_sem]
  repeat (refine And.intro (by first | omega | (intros; omega) | (intros; exact And.intro (by assumption) (by omega))) ?_)
  apply_assumption -exfalso -symm
  repeat (refine Do.seqk fun _ _ => ?_)
  refine Do.cond [2,3,4] rfl (fun h => ?_) (fun h => ?_) <;> simp [go_sem] at h ⊢
  · repeat (refine Do.seqk fun _ _ => ?_)
    refine Do.region [4] true ?_
    simp [go_sem]
    repeat (refine And.intro (by first | omega | (intros; omega) | (intros; exact And.intro (by assumption) (by omega))) ?_)
    apply_assumption -exfalso -symm
    refine Do.ret ?_
    simp [endQ, rets, ret1, go_sem]
    repeat (refine And.intro (by first | omega | (intros; omega) | (intros; exact And.intro (by assumption) (by omega))) ?_)
    rw [if_pos h]
    exact TLe.refl _
  · refine Do.skip ?_
    simp [go_sem]
    apply_assumption -exfalso -symm
    repeat (refine Do.seqk fun _ _ => ?_)
    refine Do.region [2,3,4,12] true ?_
    simp [go_sem]
    repeat (refine And.intro (by first | omega | (intros; omega) | (intros; exact And.intro (by assumption) (by omega))) ?_)
    refine DoL.call true 0 rfl rfl rfl rfl (by first | exact trivial | omega | (simp; done) | (simp; omega)) (NZero_does (m := nat bv) (by omega)) rfl (by first | exact .inl rfl | exact .inr rfl) rfl ?_
    simp [go_sem]
    repeat (refine And.intro (by first | omega | (intros; omega) | (intros; exact And.intro (by assumption) (by omega))) ?_)
    apply_assumption -exfalso -symm
    repeat (refine Do.seqk fun _ _ => ?_)
    refine Do.cond [2,3,4] rfl (fun h' => ?_) (fun h' => ?_) <;> simp [go_sem] at h' ⊢
    · repeat (refine Do.seqk fun _ _ => ?_)
      refine Do.region [4] true ?_
      simp [go_sem]
      repeat (refine And.intro (by first | omega | (intros; omega) | (intros; exact And.intro (by assumption) (by omega))) ?_)
      apply_assumption -exfalso -symm
      refine Do.ret ?_
      simp [endQ, rets, ret1, go_sem]
      repeat (refine And.intro (by first | omega | (intros; omega) | (intros; exact And.intro (by assumption) (by omega))) ?_)
      rw [if_neg h, if_pos h']
      exact TLe.refl _
    · refine Do.skip ?_
      simp [go_sem]
      apply_assumption -exfalso -symm
      rw [if_neg h, if_neg h']
      repeat (refine Do.seqk fun _ _ => ?_)
      refine Do.region [2,3,4,5] true ?_
      simp [go_sem]
      repeat (refine And.intro (by first | omega | (intros; omega) | (intros; exact And.intro (by assumption) (by omega))) ?_)
      apply_assumption -exfalso -symm
      have he : (if be < ae then be else ae) ≤ ae ∧ (if be < ae then be else ae) ≤ be ∧ -4194304 ≤ (if be < ae then be else ae) := by split <;> omega
      generalize (if be < ae then be else ae) = e at *
      obtain ⟨s, rfl⟩ : ∃ s : Nat, ae = e + s := ⟨(ae - e).toNat, by omega⟩
      obtain ⟨u, rfl⟩ : ∃ u : Nat, be = e + u := ⟨(be - e).toNat, by omega⟩
      rw [show (e + (s : Int) - e).toNat = s by omega, show (e + (u : Int) - e).toNat = u by omega]
      have hx := bl_mul_pow av s (by omega)
      have hy := bl_mul_pow bv u (by omega)
      have hs1 : e + (s : Int) - e = s := by omega
      have hu1 : e + (u : Int) - e = u := by omega
      repeat (refine Do.seqk fun _ _ => ?_)
      refine Do.draw [2,3,4,5,6,7] true (by kernel_rfl) ?_
      simp [go_sem]
      repeat (refine And.intro (by first | omega | (intros; omega) | (intros; exact And.intro (by assumption) (by omega))) ?_)
      rw [hs1]
      repeat (refine And.intro (by first | omega | (intros; omega) | (intros; exact And.intro (by assumption) (by omega))) ?_)
      refine DoLD.call true 0 rfl rfl rfl rfl (by first | exact trivial | omega | (simp; done) | (simp; omega)) (Shl_does (x := nat av) (s := s) (by omega) (nat_ws _) (by omega)) rfl (by first | exact .inl rfl | exact .inr rfl) rfl ?_
      simp [go_sem]
      repeat (refine And.intro (by first | omega | (intros; omega) | (intros; exact And.intro (by assumption) (by omega))) ?_)
      rw [hu1]
      repeat (refine And.intro (by first | omega | (intros; omega) | (intros; exact And.intro (by assumption) (by omega))) ?_)
      refine DoLD.call true 50 rfl rfl rfl rfl (by first | exact trivial | omega | (simp; done) | (simp; omega)) (Shl_does (x := nat bv) (s := u) (by omega) (nat_ws _) (by omega)) rfl (by first | exact .inl rfl | exact .inr rfl) rfl ?_
      simp [go_sem]
      repeat (refine And.intro (by first | omega | (intros; omega) | (intros; exact And.intro (by assumption) (by omega))) ?_)
      refine And.intro (by kernel_rfl) ?_
      apply_assumption -exfalso -symm
      have lx := nat_len_bl (av * 2 ^ s)
      have ly := nat_len_bl (bv * 2 ^ u)
      generalize av * 2 ^ s = x at *
      generalize bv * 2 ^ u = y at *
      repeat (refine Do.seqk fun _ _ => ?_)
      refine Do.block ?_
      repeat (refine Do.seqk fun _ _ => ?_)
      refine Do.region [2,3,4,5,6,7,33] true ?_
      simp [go_sem]
      repeat (refine And.intro (by first | omega | (intros; omega) | (intros; exact And.intro (by assumption) (by omega))) ?_)
      apply_assumption -exfalso -symm
      repeat (refine Do.seqk fun _ _ => ?_)
      refine Do.cond [2,3,4,5,6,7] rfl (fun h2 => ?_) (fun h2 => ?_) <;> simp [go_sem] at h2 ⊢
      · repeat (refine Do.seqk fun _ _ => ?_)
        refine Do.draw [4] true (by kernel_rfl) ?_
        simp [go_sem]
        repeat (refine And.intro (by first | omega | (intros; omega) | (intros; exact And.intro (by assumption) (by omega))) ?_)
        refine DoLD.call true 0 rfl rfl rfl rfl (by first | exact trivial | omega | (simp; done) | (simp; omega)) (Add_does (x := nat x) (y := nat y) (by omega) (by omega) (nat_ws _) (nat_ws _) (by omega) (by omega)) rfl (by first | exact .inl rfl | exact .inr rfl) rfl ?_
        simp [go_sem]
        repeat (refine And.intro (by first | omega | (intros; omega) | (intros; exact And.intro (by assumption) (by omega))) ?_)
        refine And.intro (by kernel_rfl) ?_
        apply_assumption -exfalso -symm
        refine Do.ret ?_
        simp [endQ, rets, ret1, go_sem]
        repeat (refine And.intro (by first | omega | (intros; omega) | (intros; exact And.intro (by assumption) (by omega))) ?_)
        rw [if_pos h2]
        exact TLe.v (PLe.nu (PLe.ext _))
      · repeat (refine Do.seqk fun _ _ => ?_)
        refine Do.region [2,3,4,5,6,7,46] true ?_
        simp [go_sem]
        repeat (refine And.intro (by first | omega | (intros; omega) | (intros; exact And.intro (by assumption) (by omega))) ?_)
        refine DoL.call true 0 rfl rfl rfl rfl (by first | exact trivial | omega | (simp; done) | (simp; omega)) (Cmp_does (x := nat x) (y := nat y) (by omega) (by omega) (nat_ws _) (nat_ws _)) rfl (by first | exact .inl rfl | exact .inr rfl) rfl ?_
        simp [go_sem]
        repeat (refine And.intro (by first | omega | (intros; omega) | (intros; exact And.intro (by assumption) (by omega))) ?_)
        apply_assumption -exfalso -symm
        rw [if_neg h2]
        repeat (refine Do.seqk fun _ _ => ?_)
        refine Do.cond [2,3,4,5,6,7] rfl (fun h3 => ?_) (fun h3 => ?_) <;> simp [go_sem] at h3 ⊢
        · repeat (refine Do.seqk fun _ _ => ?_)
          refine Do.draw [4] true (by kernel_rfl) ?_
          simp [go_sem]
          repeat (refine And.intro (by first | omega | (intros; omega) | (intros; exact And.intro (by assumption) (by omega))) ?_)
          refine DoLD.call true 0 rfl rfl rfl rfl (by first | exact trivial | omega | (simp; done) | (simp; omega)) (Sub_does (x := nat x) (y := nat y) (by omega) (by omega) (nat_ws _) (nat_ws _) (by rw [val_nat, val_nat]; omega)) rfl (by first | exact .inl rfl | exact .inr rfl) rfl ?_
          simp [go_sem]
          repeat (refine And.intro (by first | omega | (intros; omega) | (intros; exact And.intro (by assumption) (by omega))) ?_)
          refine And.intro (by kernel_rfl) ?_
          apply_assumption -exfalso -symm
          refine Do.ret ?_
          simp [endQ, rets, ret1, go_sem]
          repeat (refine And.intro (by first | omega | (intros; omega) | (intros; exact And.intro (by assumption) (by omega))) ?_)
          rw [if_pos (by omega)]
          exact TLe.v (PLe.nu (PLe.ext _))
        · refine Do.skip ?_
          simp [go_sem]
          apply_assumption -exfalso -symm
          have h4 : x < y := by
            apply Classical.byContradiction
            intro q
            rw [if_neg q] at h3
            split at h3 <;> omega
          rw [if_neg h2, if_neg (show ¬ y ≤ x by omega)]
          repeat (refine Do.seqk fun _ _ => ?_)
          refine Do.draw [4] true (by kernel_rfl) ?_
          simp [go_sem]
          repeat (refine And.intro (by first | omega | (intros; omega) | (intros; exact And.intro (by assumption) (by omega))) ?_)
          refine DoLD.call true 0 rfl rfl rfl rfl (by first | exact trivial | omega | (simp; done) | (simp; omega)) (Sub_does (x := nat y) (y := nat x) (by omega) (by omega) (nat_ws _) (nat_ws _) (by rw [val_nat, val_nat]; omega)) rfl (by first | exact .inl rfl | exact .inr rfl) rfl ?_
          simp [go_sem]
          repeat (refine And.intro (by first | omega | (intros; omega) | (intros; exact And.intro (by assumption) (by omega))) ?_)
          refine And.intro (by kernel_rfl) ?_
          apply_assumption -exfalso -symm
          refine Do.ret ?_
          simp [endQ, rets, ret1, go_sem]
          repeat (refine And.intro (by first | omega | (intros; omega) | (intros; exact And.intro (by assumption) (by omega))) ?_)
          exact TLe.v (PLe.nu (PLe.ext _))
/-- What was cut off: 0 nothing, 1 less than a half, 2 a half, 3 more; does it raise the last digit? -/
def moreP (r : Int) (n odd : Bool) (x : Int) : Bool :=
  if r = 0 then x == 3 || x == 2 && odd else if r = 1 then decide (2 ≤ x) else if r = 2 then false else if r = 3 then decide (0 < x) && !n else decide (0 < x) && n
theorem more1_does {n o : Bool} {x : Int} : Does Tryz.prog G 183 [.c (.b n), .c (.b o), .c (.i .i64 x)] (.v (.c (.b (moreP 0 n o x)))) := by
  refine Does.of (nt := 16) (Tryz.func183) rfl rfl rfl (by simp) ?_
  simp only [argTm, PV.ext, Ce.ext]
  repeat (refine Do.seqk fun _ _ => ?_)
  refine Do.region [0,1,2,6] true ?_
  simp [go_sem]
  repeat (refine And.intro (by first | omega | (intros; omega) | (intros; exact And.intro (by assumption) (by omega))) ?_)
  apply_assumption -exfalso -symm
  repeat (refine Do.seqk fun _ _ => ?_)
  refine Do.region [6] true ?_
  simp [go_sem]
  repeat (refine And.intro (by first | omega | (intros; omega) | (intros; exact And.intro (by assumption) (by omega))) ?_)
  apply_assumption -exfalso -symm
  refine Do.ret ?_
  simp [endQ, rets, ret1, go_sem]
  repeat (refine And.intro (by first | omega | (intros; omega) | (intros; exact And.intro (by assumption) (by omega))) ?_)
  exact TLe.refl _
theorem more2_does {n o : Bool} {x : Int} : Does Tryz.prog G 184 [.c (.b n), .c (.b o), .c (.i .i64 x)] (.v (.c (.b (moreP 1 n o x)))) := by
  refine Does.of (nt := 9) (Tryz.func184) rfl rfl rfl (by simp) ?_
  simp only [argTm, PV.ext, Ce.ext]
  repeat (refine Do.seqk fun _ _ => ?_)
  refine Do.region [0,1,2,6] true ?_
  simp [go_sem]
  repeat (refine And.intro (by first | omega | (intros; omega) | (intros; exact And.intro (by assumption) (by omega))) ?_)
  apply_assumption -exfalso -symm
  repeat (refine Do.seqk fun _ _ => ?_)
  refine Do.region [6] true ?_
  simp [go_sem]
  repeat (refine And.intro (by first | omega | (intros; omega) | (intros; exact And.intro (by assumption) (by omega))) ?_)
  apply_assumption -exfalso -symm
  refine Do.ret ?_
  simp [endQ, rets, ret1, go_sem]
  repeat (refine And.intro (by first | omega | (intros; omega) | (intros; exact And.intro (by assumption) (by omega))) ?_)
  exact TLe.refl _
theorem more3_does {n o : Bool} {x : Int} : Does Tryz.prog G 185 [.c (.b n), .c (.b o), .c (.i .i64 x)] (.v (.c (.b (moreP 2 n o x)))) := by
  refine Does.of (nt := 7) (Tryz.func185) rfl rfl rfl (by simp) ?_
  simp only [argTm, PV.ext, Ce.ext]
  repeat (refine Do.seqk fun _ _ => ?_)
  refine Do.region [0,1,2,6] true ?_
  simp [go_sem]
  repeat (refine And.intro (by first | omega | (intros; omega) | (intros; exact And.intro (by assumption) (by omega))) ?_)
  apply_assumption -exfalso -symm
  repeat (refine Do.seqk fun _ _ => ?_)
  refine Do.region [6] true ?_
  simp [go_sem]
  repeat (refine And.intro (by first | omega | (intros; omega) | (intros; exact And.intro (by assumption) (by omega))) ?_)
  apply_assumption -exfalso -symm
  refine Do.ret ?_
  simp [endQ, rets, ret1, go_sem]
  repeat (refine And.intro (by first | omega | (intros; omega) | (intros; exact And.intro (by assumption) (by omega))) ?_)
  exact TLe.refl _
theorem more4_does {n o : Bool} {x : Int} : Does Tryz.prog G 186 [.c (.b n), .c (.b o), .c (.i .i64 x)] (.v (.c (.b (moreP 3 n o x)))) := by
  refine Does.of (nt := 13) (Tryz.func186) rfl rfl rfl (by simp) ?_
  simp only [argTm, PV.ext, Ce.ext]
  repeat (refine Do.seqk fun _ _ => ?_)
  refine Do.region [0,1,2,6] true ?_
  simp [go_sem]
  repeat (refine And.intro (by first | omega | (intros; omega) | (intros; exact And.intro (by assumption) (by omega))) ?_)
  apply_assumption -exfalso -symm
  repeat (refine Do.seqk fun _ _ => ?_)
  refine Do.region [6] true ?_
  simp [go_sem]
  repeat (refine And.intro (by first | omega | (intros; omega) | (intros; exact And.intro (by assumption) (by omega))) ?_)
  apply_assumption -exfalso -symm
  refine Do.ret ?_
  simp [endQ, rets, ret1, go_sem]
  repeat (refine And.intro (by first | omega | (intros; omega) | (intros; exact And.intro (by assumption) (by omega))) ?_)
  exact TLe.refl _
theorem more5_does {n o : Bool} {x : Int} : Does Tryz.prog G 187 [.c (.b n), .c (.b o), .c (.i .i64 x)] (.v (.c (.b (moreP 4 n o x)))) := by
  refine Does.of (nt := 12) (Tryz.func187) rfl rfl rfl (by simp) ?_
  simp only [argTm, PV.ext, Ce.ext]
  repeat (refine Do.seqk fun _ _ => ?_)
  refine Do.region [0,1,2,6] true ?_
  simp [go_sem]
  repeat (refine And.intro (by first | omega | (intros; omega) | (intros; exact And.intro (by assumption) (by omega))) ?_)
  apply_assumption -exfalso -symm
  repeat (refine Do.seqk fun _ _ => ?_)
  refine Do.region [6] true ?_
  simp [go_sem]
  repeat (refine And.intro (by first | omega | (intros; omega) | (intros; exact And.intro (by assumption) (by omega))) ?_)
  apply_assumption -exfalso -symm
  refine Do.ret ?_
  simp [endQ, rets, ret1, go_sem]
  repeat (refine And.intro (by first | omega | (intros; omega) | (intros; exact And.intro (by assumption) (by omega))) ?_)
  exact TLe.refl _
end Go.Proofs.YtbhokdhkfodpfaaGreatDoor
/- Rounding. No condition. -/
namespace Go.Proofs.YtbhokdhkfodpfaaGreatDoor
set_option linter.unusedVariables false
set_option linter.unusedSimpArgs false
variable {G : Gl}
set_option maxHeartbeats 1000000
/-- q, or the next number. -/
def upP (r : Int) (n : Bool) (q : Nat) (x : Int) : Nat := if moreP r n (decide (q % 2 = 1)) x then q + 1 else q
theorem Gv1 : Gv 2 = [.f 183, .f 184, .f 185, .f 186, .f 187] := rfl
theorem up_does {r : Int} {n : Bool} {m : List Nat} {x : Int} (hr : 0 ≤ r) (hr' : r ≤ 4) (hm : m.length < 1099511627775) (wm : Ws m) : Does Tryz.prog Gv 128 [.c (.i .i64 r), .c (.b n), .c (.w false m), .c (.i .i64 x)] (.v (Wn (nat (upP r n (val m) x)))) := by
  refine Does.of (nt := 22) (Tryz.func128) rfl rfl rfl (by simp) ?_
  simp only [argTm, PV.ext, Ce.ext]
  have hw1 : Ws [1] := fun w hw => by simp at hw; omega
  have hbit := @Bit_does Gv m (by omega) wm 0 (by omega) (by omega)
  simp at hbit
  have one_ : Sh [1] ∧ [1].length < 1099511627775 := by decide
  rcases (show r = 0 ∨ r = 1 ∨ r = 2 ∨ r = 3 ∨ r = 4 by omega) with h | h | h | h | h <;> subst h
  · repeat (refine Do.seqk fun _ _ => ?_)
    refine Do.region [0,1,2,3,8] true ?_
    simp [go_sem]
    repeat (refine And.intro (by first | omega | (intros; omega) | (intros; exact And.intro (by assumption) (by omega))) ?_)
    apply_assumption -exfalso -symm
    repeat (refine Do.seqk fun _ _ => ?_)
    refine Do.draw [0,1,2,3,8,16] true (by kernel_rfl) ?_
    simp [go_sem, Gv1]
    repeat (refine And.intro (by first | omega | (intros; omega) | (intros; exact And.intro (by assumption) (by omega))) ?_)
    refine DoLD.call true 0 rfl rfl rfl rfl (by first | exact trivial | omega | (simp; done) | (simp; omega)) (hbit) rfl (by first | exact .inl rfl | exact .inr rfl) rfl ?_
    simp [go_sem]
    repeat (refine And.intro (by first | omega | (intros; omega) | (intros; exact And.intro (by assumption) (by omega))) ?_)
    refine DoLD.call true 0 rfl rfl rfl rfl (by first | exact trivial | omega | (simp; done) | (simp; omega)) (more1_does) rfl (by first | exact .inl rfl | exact .inr rfl) rfl ?_
    simp [go_sem]
    repeat (refine And.intro (by first | omega | (intros; omega) | (intros; exact And.intro (by assumption) (by omega))) ?_)
    refine And.intro (by kernel_rfl) ?_
    apply_assumption -exfalso -symm
    repeat (refine Do.seqk fun _ _ => ?_)
    refine Do.cond [0,1,2,3,8] rfl (fun h => ?_) (fun h => ?_) <;> simp [go_sem] at h ⊢
    · repeat (refine Do.seqk fun _ _ => ?_)
      refine Do.region [8] true ?_
      simp [go_sem]
      repeat (refine And.intro (by first | omega | (intros; omega) | (intros; exact And.intro (by assumption) (by omega))) ?_)
      refine DoL.call true 0 rfl rfl rfl rfl (by first | exact trivial | omega | (simp; done) | (simp; omega)) (Add_does (x := m) (y := [1]) (by omega) one_.1 wm hw1 hm one_.2) rfl (by first | exact .inl rfl | exact .inr rfl) rfl ?_
      simp [go_sem]
      repeat (refine And.intro (by first | omega | (intros; omega) | (intros; exact And.intro (by assumption) (by omega))) ?_)
      apply_assumption -exfalso -symm
      refine Do.ret ?_
      simp [endQ, rets, ret1, go_sem]
      repeat (refine And.intro (by first | omega | (intros; omega) | (intros; exact And.intro (by assumption) (by omega))) ?_)
      rw [upP, if_pos h]
      exact TLe.refl _
    · refine Do.skip ?_
      simp [go_sem]
      apply_assumption -exfalso -symm
      repeat (refine Do.seqk fun _ _ => ?_)
      refine Do.region [8] true ?_
      simp [go_sem]
      repeat (refine And.intro (by first | omega | (intros; omega) | (intros; exact And.intro (by assumption) (by omega))) ?_)
      refine DoL.call true 0 rfl rfl rfl rfl (by first | exact trivial | omega | (simp; done) | (simp; omega)) (Trim_does (x := m) (by omega) wm) rfl (by first | exact .inl rfl | exact .inr rfl) rfl ?_
      simp [go_sem]
      repeat (refine And.intro (by first | omega | (intros; omega) | (intros; exact And.intro (by assumption) (by omega))) ?_)
      apply_assumption -exfalso -symm
      refine Do.ret ?_
      simp [endQ, rets, ret1, go_sem]
      repeat (refine And.intro (by first | omega | (intros; omega) | (intros; exact And.intro (by assumption) (by omega))) ?_)
      rw [upP, if_neg (by rw [h]; exact Bool.false_ne_true)]
      exact TLe.refl _
  · repeat (refine Do.seqk fun _ _ => ?_)
    refine Do.region [0,1,2,3,8] true ?_
    simp [go_sem]
    repeat (refine And.intro (by first | omega | (intros; omega) | (intros; exact And.intro (by assumption) (by omega))) ?_)
    apply_assumption -exfalso -symm
    repeat (refine Do.seqk fun _ _ => ?_)
    refine Do.draw [0,1,2,3,8,16] true (by kernel_rfl) ?_
    simp [go_sem, Gv1]
    repeat (refine And.intro (by first | omega | (intros; omega) | (intros; exact And.intro (by assumption) (by omega))) ?_)
    refine DoLD.call true 0 rfl rfl rfl rfl (by first | exact trivial | omega | (simp; done) | (simp; omega)) (hbit) rfl (by first | exact .inl rfl | exact .inr rfl) rfl ?_
    simp [go_sem]
    repeat (refine And.intro (by first | omega | (intros; omega) | (intros; exact And.intro (by assumption) (by omega))) ?_)
    refine DoLD.call true 0 rfl rfl rfl rfl (by first | exact trivial | omega | (simp; done) | (simp; omega)) (more2_does) rfl (by first | exact .inl rfl | exact .inr rfl) rfl ?_
    simp [go_sem]
    repeat (refine And.intro (by first | omega | (intros; omega) | (intros; exact And.intro (by assumption) (by omega))) ?_)
    refine And.intro (by kernel_rfl) ?_
    apply_assumption -exfalso -symm
    repeat (refine Do.seqk fun _ _ => ?_)
    refine Do.cond [0,1,2,3,8] rfl (fun h => ?_) (fun h => ?_) <;> simp [go_sem] at h ⊢
    · repeat (refine Do.seqk fun _ _ => ?_)
      refine Do.region [8] true ?_
      simp [go_sem]
      repeat (refine And.intro (by first | omega | (intros; omega) | (intros; exact And.intro (by assumption) (by omega))) ?_)
      refine DoL.call true 0 rfl rfl rfl rfl (by first | exact trivial | omega | (simp; done) | (simp; omega)) (Add_does (x := m) (y := [1]) (by omega) one_.1 wm hw1 hm one_.2) rfl (by first | exact .inl rfl | exact .inr rfl) rfl ?_
      simp [go_sem]
      repeat (refine And.intro (by first | omega | (intros; omega) | (intros; exact And.intro (by assumption) (by omega))) ?_)
      apply_assumption -exfalso -symm
      refine Do.ret ?_
      simp [endQ, rets, ret1, go_sem]
      repeat (refine And.intro (by first | omega | (intros; omega) | (intros; exact And.intro (by assumption) (by omega))) ?_)
      rw [upP, if_pos h]
      exact TLe.refl _
    · refine Do.skip ?_
      simp [go_sem]
      apply_assumption -exfalso -symm
      repeat (refine Do.seqk fun _ _ => ?_)
      refine Do.region [8] true ?_
      simp [go_sem]
      repeat (refine And.intro (by first | omega | (intros; omega) | (intros; exact And.intro (by assumption) (by omega))) ?_)
      refine DoL.call true 0 rfl rfl rfl rfl (by first | exact trivial | omega | (simp; done) | (simp; omega)) (Trim_does (x := m) (by omega) wm) rfl (by first | exact .inl rfl | exact .inr rfl) rfl ?_
      simp [go_sem]
      repeat (refine And.intro (by first | omega | (intros; omega) | (intros; exact And.intro (by assumption) (by omega))) ?_)
      apply_assumption -exfalso -symm
      refine Do.ret ?_
      simp [endQ, rets, ret1, go_sem]
      repeat (refine And.intro (by first | omega | (intros; omega) | (intros; exact And.intro (by assumption) (by omega))) ?_)
      rw [upP, if_neg (by rw [h]; exact Bool.false_ne_true)]
      exact TLe.refl _
  · repeat (refine Do.seqk fun _ _ => ?_)
    refine Do.region [0,1,2,3,8] true ?_
    simp [go_sem]
    repeat (refine And.intro (by first | omega | (intros; omega) | (intros; exact And.intro (by assumption) (by omega))) ?_)
    apply_assumption -exfalso -symm
    repeat (refine Do.seqk fun _ _ => ?_)
    refine Do.draw [0,1,2,3,8,16] true (by kernel_rfl) ?_
    simp [go_sem, Gv1]
    repeat (refine And.intro (by first | omega | (intros; omega) | (intros; exact And.intro (by assumption) (by omega))) ?_)
    refine DoLD.call true 0 rfl rfl rfl rfl (by first | exact trivial | omega | (simp; done) | (simp; omega)) (hbit) rfl (by first | exact .inl rfl | exact .inr rfl) rfl ?_
    simp [go_sem]
    repeat (refine And.intro (by first | omega | (intros; omega) | (intros; exact And.intro (by assumption) (by omega))) ?_)
    refine DoLD.call true 0 rfl rfl rfl rfl (by first | exact trivial | omega | (simp; done) | (simp; omega)) (more3_does) rfl (by first | exact .inl rfl | exact .inr rfl) rfl ?_
    simp [go_sem]
    repeat (refine And.intro (by first | omega | (intros; omega) | (intros; exact And.intro (by assumption) (by omega))) ?_)
    refine And.intro (by kernel_rfl) ?_
    apply_assumption -exfalso -symm
    repeat (refine Do.seqk fun _ _ => ?_)
    refine Do.cond [0,1,2,3,8] rfl (fun h => ?_) (fun h => ?_) <;> simp [go_sem] at h ⊢
    · repeat (refine Do.seqk fun _ _ => ?_)
      refine Do.region [8] true ?_
      simp [go_sem]
      repeat (refine And.intro (by first | omega | (intros; omega) | (intros; exact And.intro (by assumption) (by omega))) ?_)
      refine DoL.call true 0 rfl rfl rfl rfl (by first | exact trivial | omega | (simp; done) | (simp; omega)) (Add_does (x := m) (y := [1]) (by omega) one_.1 wm hw1 hm one_.2) rfl (by first | exact .inl rfl | exact .inr rfl) rfl ?_
      simp [go_sem]
      repeat (refine And.intro (by first | omega | (intros; omega) | (intros; exact And.intro (by assumption) (by omega))) ?_)
      apply_assumption -exfalso -symm
      refine Do.ret ?_
      simp [endQ, rets, ret1, go_sem]
      repeat (refine And.intro (by first | omega | (intros; omega) | (intros; exact And.intro (by assumption) (by omega))) ?_)
      rw [upP, if_pos h]
      exact TLe.refl _
    · refine Do.skip ?_
      simp [go_sem]
      apply_assumption -exfalso -symm
      repeat (refine Do.seqk fun _ _ => ?_)
      refine Do.region [8] true ?_
      simp [go_sem]
      repeat (refine And.intro (by first | omega | (intros; omega) | (intros; exact And.intro (by assumption) (by omega))) ?_)
      refine DoL.call true 0 rfl rfl rfl rfl (by first | exact trivial | omega | (simp; done) | (simp; omega)) (Trim_does (x := m) (by omega) wm) rfl (by first | exact .inl rfl | exact .inr rfl) rfl ?_
      simp [go_sem]
      repeat (refine And.intro (by first | omega | (intros; omega) | (intros; exact And.intro (by assumption) (by omega))) ?_)
      apply_assumption -exfalso -symm
      refine Do.ret ?_
      simp [endQ, rets, ret1, go_sem]
      repeat (refine And.intro (by first | omega | (intros; omega) | (intros; exact And.intro (by assumption) (by omega))) ?_)
      rw [upP, if_neg (by rw [h]; exact Bool.false_ne_true)]
      exact TLe.refl _
  · repeat (refine Do.seqk fun _ _ => ?_)
    refine Do.region [0,1,2,3,8] true ?_
    simp [go_sem]
    repeat (refine And.intro (by first | omega | (intros; omega) | (intros; exact And.intro (by assumption) (by omega))) ?_)
    apply_assumption -exfalso -symm
    repeat (refine Do.seqk fun _ _ => ?_)
    refine Do.draw [0,1,2,3,8,16] true (by kernel_rfl) ?_
    simp [go_sem, Gv1]
    repeat (refine And.intro (by first | omega | (intros; omega) | (intros; exact And.intro (by assumption) (by omega))) ?_)
    refine DoLD.call true 0 rfl rfl rfl rfl (by first | exact trivial | omega | (simp; done) | (simp; omega)) (hbit) rfl (by first | exact .inl rfl | exact .inr rfl) rfl ?_
    simp [go_sem]
    repeat (refine And.intro (by first | omega | (intros; omega) | (intros; exact And.intro (by assumption) (by omega))) ?_)
    refine DoLD.call true 0 rfl rfl rfl rfl (by first | exact trivial | omega | (simp; done) | (simp; omega)) (more4_does) rfl (by first | exact .inl rfl | exact .inr rfl) rfl ?_
    simp [go_sem]
    repeat (refine And.intro (by first | omega | (intros; omega) | (intros; exact And.intro (by assumption) (by omega))) ?_)
    refine And.intro (by kernel_rfl) ?_
    apply_assumption -exfalso -symm
    repeat (refine Do.seqk fun _ _ => ?_)
    refine Do.cond [0,1,2,3,8] rfl (fun h => ?_) (fun h => ?_) <;> simp [go_sem] at h ⊢
    · repeat (refine Do.seqk fun _ _ => ?_)
      refine Do.region [8] true ?_
      simp [go_sem]
      repeat (refine And.intro (by first | omega | (intros; omega) | (intros; exact And.intro (by assumption) (by omega))) ?_)
      refine DoL.call true 0 rfl rfl rfl rfl (by first | exact trivial | omega | (simp; done) | (simp; omega)) (Add_does (x := m) (y := [1]) (by omega) one_.1 wm hw1 hm one_.2) rfl (by first | exact .inl rfl | exact .inr rfl) rfl ?_
      simp [go_sem]
      repeat (refine And.intro (by first | omega | (intros; omega) | (intros; exact And.intro (by assumption) (by omega))) ?_)
      apply_assumption -exfalso -symm
      refine Do.ret ?_
      simp [endQ, rets, ret1, go_sem]
      repeat (refine And.intro (by first | omega | (intros; omega) | (intros; exact And.intro (by assumption) (by omega))) ?_)
      rw [upP, if_pos h]
      exact TLe.refl _
    · refine Do.skip ?_
      simp [go_sem]
      apply_assumption -exfalso -symm
      repeat (refine Do.seqk fun _ _ => ?_)
      refine Do.region [8] true ?_
      simp [go_sem]
      repeat (refine And.intro (by first | omega | (intros; omega) | (intros; exact And.intro (by assumption) (by omega))) ?_)
      refine DoL.call true 0 rfl rfl rfl rfl (by first | exact trivial | omega | (simp; done) | (simp; omega)) (Trim_does (x := m) (by omega) wm) rfl (by first | exact .inl rfl | exact .inr rfl) rfl ?_
      simp [go_sem]
      repeat (refine And.intro (by first | omega | (intros; omega) | (intros; exact And.intro (by assumption) (by omega))) ?_)
      apply_assumption -exfalso -symm
      refine Do.ret ?_
      simp [endQ, rets, ret1, go_sem]
      repeat (refine And.intro (by first | omega | (intros; omega) | (intros; exact And.intro (by assumption) (by omega))) ?_)
      rw [upP, if_neg (by rw [h]; exact Bool.false_ne_true)]
      exact TLe.refl _
  · repeat (refine Do.seqk fun _ _ => ?_)
    refine Do.region [0,1,2,3,8] true ?_
    simp [go_sem]
    repeat (refine And.intro (by first | omega | (intros; omega) | (intros; exact And.intro (by assumption) (by omega))) ?_)
    apply_assumption -exfalso -symm
    repeat (refine Do.seqk fun _ _ => ?_)
    refine Do.draw [0,1,2,3,8,16] true (by kernel_rfl) ?_
    simp [go_sem, Gv1]
    repeat (refine And.intro (by first | omega | (intros; omega) | (intros; exact And.intro (by assumption) (by omega))) ?_)
    refine DoLD.call true 0 rfl rfl rfl rfl (by first | exact trivial | omega | (simp; done) | (simp; omega)) (hbit) rfl (by first | exact .inl rfl | exact .inr rfl) rfl ?_
    simp [go_sem]
    repeat (refine And.intro (by first | omega | (intros; omega) | (intros; exact And.intro (by assumption) (by omega))) ?_)
    refine DoLD.call true 0 rfl rfl rfl rfl (by first | exact trivial | omega | (simp; done) | (simp; omega)) (more5_does) rfl (by first | exact .inl rfl | exact .inr rfl) rfl ?_
    simp [go_sem]
    repeat (refine And.intro (by first | omega | (intros; omega) | (intros; exact And.intro (by assumption) (by omega))) ?_)
    refine And.intro (by kernel_rfl) ?_
    apply_assumption -exfalso -symm
    repeat (refine Do.seqk fun _ _ => ?_)
    refine Do.cond [0,1,2,3,8] rfl (fun h => ?_) (fun h => ?_) <;> simp [go_sem] at h ⊢
    · repeat (refine Do.seqk fun _ _ => ?_)
      refine Do.region [8] true ?_
      simp [go_sem]
      repeat (refine And.intro (by first | omega | (intros; omega) | (intros; exact And.intro (by assumption) (by omega))) ?_)
      refine DoL.call true 0 rfl rfl rfl rfl (by first | exact trivial | omega | (simp; done) | (simp; omega)) (Add_does (x := m) (y := [1]) (by omega) one_.1 wm hw1 hm one_.2) rfl (by first | exact .inl rfl | exact .inr rfl) rfl ?_
      simp [go_sem]
      repeat (refine And.intro (by first | omega | (intros; omega) | (intros; exact And.intro (by assumption) (by omega))) ?_)
      apply_assumption -exfalso -symm
      refine Do.ret ?_
      simp [endQ, rets, ret1, go_sem]
      repeat (refine And.intro (by first | omega | (intros; omega) | (intros; exact And.intro (by assumption) (by omega))) ?_)
      rw [upP, if_pos h]
      exact TLe.refl _
    · refine Do.skip ?_
      simp [go_sem]
      apply_assumption -exfalso -symm
      repeat (refine Do.seqk fun _ _ => ?_)
      refine Do.region [8] true ?_
      simp [go_sem]
      repeat (refine And.intro (by first | omega | (intros; omega) | (intros; exact And.intro (by assumption) (by omega))) ?_)
      refine DoL.call true 0 rfl rfl rfl rfl (by first | exact trivial | omega | (simp; done) | (simp; omega)) (Trim_does (x := m) (by omega) wm) rfl (by first | exact .inl rfl | exact .inr rfl) rfl ?_
      simp [go_sem]
      repeat (refine And.intro (by first | omega | (intros; omega) | (intros; exact And.intro (by assumption) (by omega))) ?_)
      apply_assumption -exfalso -symm
      refine Do.ret ?_
      simp [endQ, rets, ret1, go_sem]
      repeat (refine And.intro (by first | omega | (intros; omega) | (intros; exact And.intro (by assumption) (by omega))) ?_)
      rw [upP, if_neg (by rw [h]; exact Bool.false_ne_true)]
      exact TLe.refl _
end Go.Proofs.YtbhokdhkfodpfaaGreatDoor
/- What a rounding cuts off. No condition. -/
namespace Go.Proofs.YtbhokdhkfodpfaaGreatDoor
set_option linter.unusedVariables false
set_option linter.unusedSimpArgs false
variable {G : Gl}
set_option maxHeartbeats 1000000
/-- v / 2^s, rounded down, and the rest. -/
def cutP (v : Nat) (s : Int) (st : Bool) : Nat × Int :=
  if s ≤ 0 then (v * 2 ^ (-s).toNat, if st then 1 else 0)
  else (v / 2 ^ s.toNat, if v / 2 ^ (s - 1).toNat % 2 = 1 then (if st || !decide (v % 2 ^ (s - 1).toNat = 0) then 3 else 2) else (if st || !decide (v % 2 ^ (s - 1).toNat = 0) then 1 else 0))
theorem ret_ci {k : IntKind} {c d : Ce} {v w : Int} (h1 : PLe (.c c) (.c d)) (h : v = w) : TLe (tvOf [.c c, .c (.i k v)]) (.t [.c d, .c (.i k w)]) := h ▸ TLe.t (.cons h1 (.cons (PLe.refl _) .nil))
theorem cut_does {m : List Nat} {s : Int} {st : Bool} (hm : m.length < 274877906944) (wm : Ws m) (h1 : -274877906944 ≤ s) (h2 : s ≤ 274877906944) : Does Tryz.prog Gv 143 [.c (.w false m), .c (.i .i64 s), .c (.b st)] (.t [Wd (nat (cutP (val m) s st).1), .c (.i .i64 (cutP (val m) s st).2)]) := by
  refine Does.of (nt := 46) (Tryz.func143) rfl rfl rfl (by simp) ?_
  simp only [argTm, PV.ext, Ce.ext]
  repeat (refine Do.seqk fun _ _ => ?_)
  refine Do.region [0,1,2,6,7] true ?_
  simp [go_sem]
  repeat (refine And.intro (by first | omega | (intros; omega) | (intros; exact And.intro (by assumption) (by omega))) ?_)
  apply_assumption -exfalso -symm
  repeat (refine Do.seqk fun _ _ => ?_)
  refine Do.region [0,1,2,6,7,12] true ?_
  simp [go_sem]
  repeat (refine And.intro (by first | omega | (intros; omega) | (intros; exact And.intro (by assumption) (by omega))) ?_)
  apply_assumption -exfalso -symm
  repeat (refine Do.seqk fun _ _ => ?_)
  refine Do.cond [0,1,2,6,7] rfl (fun h => ?_) (fun h => ?_) <;> simp [go_sem] at h ⊢
  · obtain ⟨k, rfl⟩ : ∃ k : Nat, s = -k := ⟨(-s).toNat, by omega⟩
    repeat (refine Do.seqk fun _ _ => ?_)
    refine Do.region [0,1,2,6,7,13] true ?_
    simp [go_sem]
    repeat (refine And.intro (by first | omega | (intros; omega) | (intros; exact And.intro (by assumption) (by omega))) ?_)
    apply_assumption -exfalso -symm
    cases st with
    | true =>
      repeat (refine Do.seqk fun _ _ => ?_)
      refine Do.cond [0,1,2,6,7] rfl (fun h3 => ?_) (fun h3 => ?_) <;> simp [go_sem] at h3 ⊢
      repeat (refine Do.seqk fun _ _ => ?_)
      refine Do.region [6,7] true ?_
      simp [go_sem]
      repeat (refine And.intro (by first | omega | (intros; omega) | (intros; exact And.intro (by assumption) (by omega))) ?_)
      refine DoL.call true 0 rfl rfl rfl rfl (by first | exact trivial | omega | (simp; done) | (simp; omega)) (Shl_does (x := m) (s := k) (by omega) wm (by omega)) rfl (by first | exact .inl rfl | exact .inr rfl) rfl ?_
      simp [go_sem]
      repeat (refine And.intro (by first | omega | (intros; omega) | (intros; exact And.intro (by assumption) (by omega))) ?_)
      apply_assumption -exfalso -symm
      refine Do.ret ?_
      simp [endQ, rets, ret1, go_sem]
      repeat (refine And.intro (by first | omega | (intros; omega) | (intros; exact And.intro (by assumption) (by omega))) ?_)
      rw [cutP, if_pos (by omega), show (- -(k : Int)).toNat = k by omega]
      exact ret_ci (PLe.ext _) rfl
    | false =>
      repeat (refine Do.seqk fun _ _ => ?_)
      refine Do.cond [0,1,2,6,7] rfl (fun h3 => ?_) (fun h3 => ?_) <;> simp [go_sem] at h3 ⊢
      refine Do.skip ?_
      simp [go_sem]
      apply_assumption -exfalso -symm
      repeat (refine Do.seqk fun _ _ => ?_)
      refine Do.region [6,7] true ?_
      simp [go_sem]
      repeat (refine And.intro (by first | omega | (intros; omega) | (intros; exact And.intro (by assumption) (by omega))) ?_)
      refine DoL.call true 0 rfl rfl rfl rfl (by first | exact trivial | omega | (simp; done) | (simp; omega)) (Shl_does (x := m) (s := k) (by omega) wm (by omega)) rfl (by first | exact .inl rfl | exact .inr rfl) rfl ?_
      simp [go_sem]
      repeat (refine And.intro (by first | omega | (intros; omega) | (intros; exact And.intro (by assumption) (by omega))) ?_)
      apply_assumption -exfalso -symm
      refine Do.ret ?_
      simp [endQ, rets, ret1, go_sem]
      repeat (refine And.intro (by first | omega | (intros; omega) | (intros; exact And.intro (by assumption) (by omega))) ?_)
      rw [cutP, if_pos (by omega), show (- -(k : Int)).toNat = k by omega]
      exact ret_ci (PLe.ext _) rfl
  · refine Do.skip ?_
    simp [go_sem]
    apply_assumption -exfalso -symm
    obtain ⟨k, rfl⟩ : ∃ k : Nat, s = k + 1 := ⟨(s - 1).toNat, by omega⟩
    repeat (refine Do.seqk fun _ _ => ?_)
    refine Do.region [0,1,2,6,7,8] true ?_
    simp [go_sem]
    repeat (refine And.intro (by first | omega | (intros; omega) | (intros; exact And.intro (by assumption) (by omega))) ?_)
    apply_assumption -exfalso -symm
    repeat (refine Do.seqk fun _ _ => ?_)
    refine Do.region [0,1,2,6,7,8,9,10] true ?_
    simp [go_sem]
    repeat (refine And.intro (by first | omega | (intros; omega) | (intros; exact And.intro (by assumption) (by omega))) ?_)
    have hbit := @Bit_does Gv m (by omega) wm k (by omega) (by omega)
    have hbel := @Below_does m (by omega) wm k (by omega) (by omega)
    have e1 : (decide ((0 : Int) < k) && !decide (val m % 2 ^ (k : Int).toNat = 0)) = !decide (val m % 2 ^ k = 0) := by
      rw [show (k : Int).toNat = k by omega]
      by_cases h : k = 0
      · subst h; simp [Nat.mod_one]
      · simp; omega
    rw [e1] at hbel
    rw [show (k : Int).toNat = k by omega, show decide (0 ≤ (k : Int)) = true by simp, Bool.true_and] at hbit
    have ec : cutP (val m) (k + 1) st = (val m / 2 ^ (k + 1), if decide (val m / 2 ^ k % 2 = 1) then (if (st || !decide (val m % 2 ^ k = 0)) then 3 else 2) else (if (st || !decide (val m % 2 ^ k = 0)) then 1 else 0)) := by
      rw [cutP, if_neg (by omega), show ((k : Int) + 1 - 1).toNat = k by omega, show ((k : Int) + 1).toNat = k + 1 by omega]
      simp only [decide_eq_true_eq]
    refine DoL.call true 0 rfl rfl rfl rfl (by first | exact trivial | omega | (simp; done) | (simp; omega)) (hbit) rfl (by first | exact .inl rfl | exact .inr rfl) rfl ?_
    simp [go_sem]
    repeat (refine And.intro (by first | omega | (intros; omega) | (intros; exact And.intro (by assumption) (by omega))) ?_)
    refine DoL.callg true 0 rfl rfl rfl rfl rfl (by simp [go_sem] <;> omega) (fun _ => hbel) rfl (by first | exact .inl rfl | exact .inr rfl) rfl ?_
    simp [go_sem]
    repeat (refine And.intro (by first | omega | (intros; omega) | (intros; exact And.intro (by assumption) (by omega))) ?_)
    apply_assumption -exfalso -symm
    generalize decide (val m / 2 ^ k % 2 = 1) = top at *
    generalize (st || !decide (val m % 2 ^ k = 0)) = low at *
    repeat (refine Do.seqk fun _ _ => ?_)
    refine Do.block ?_
    repeat (refine Do.seqk fun _ _ => ?_)
    refine Do.region [0,1,6,7,8,9,10,33] true ?_
    simp [go_sem]
    repeat (refine And.intro (by first | omega | (intros; omega) | (intros; exact And.intro (by assumption) (by omega))) ?_)
    apply_assumption -exfalso -symm
    have hshr : Does Tryz.prog Gv 141 [Wd m, .c (.i .i64 ((k : Int) + 1))] (.v (Wn (nat (val m / 2 ^ (k + 1))))) := Shr_does (x := m) (s := k + 1) (by omega) wm (by omega)
    cases top <;> cases low
    · repeat (refine Do.seqk fun _ _ => ?_)
      refine Do.cond [0,1,6,7,8,9,10] rfl (fun h3 => ?_) (fun h3 => ?_) <;> simp [go_sem] at h3 ⊢
      repeat (refine Do.seqk fun _ _ => ?_)
      refine Do.region [0,1,6,7,8,9,10,38] true ?_
      simp [go_sem]
      repeat (refine And.intro (by first | omega | (intros; omega) | (intros; exact And.intro (by assumption) (by omega))) ?_)
      apply_assumption -exfalso -symm
      repeat (refine Do.seqk fun _ _ => ?_)
      refine Do.cond [0,1,6,7,8,9,10] rfl (fun h4 => ?_) (fun h4 => ?_) <;> simp [go_sem] at h4 ⊢
      repeat (refine Do.seqk fun _ _ => ?_)
      refine Do.region [0,1,6,7,8,9,10,40] true ?_
      simp [go_sem]
      repeat (refine And.intro (by first | omega | (intros; omega) | (intros; exact And.intro (by assumption) (by omega))) ?_)
      apply_assumption -exfalso -symm
      repeat (refine Do.seqk fun _ _ => ?_)
      refine Do.cond [0,1,6,7,8] rfl (fun h5 => ?_) (fun h5 => ?_) <;> simp [go_sem] at h5 ⊢
      refine Do.skip ?_
      simp [go_sem]
      apply_assumption -exfalso -symm
      repeat (refine Do.seqk fun _ _ => ?_)
      refine Do.region [6,7] true ?_
      simp [go_sem]
      repeat (refine And.intro (by first | omega | (intros; omega) | (intros; exact And.intro (by assumption) (by omega))) ?_)
      refine DoL.call true 0 rfl rfl rfl rfl (by first | exact trivial | omega | (simp; done) | (simp; omega)) (hshr) rfl (by first | exact .inl rfl | exact .inr rfl) rfl ?_
      simp [go_sem]
      repeat (refine And.intro (by first | omega | (intros; omega) | (intros; exact And.intro (by assumption) (by omega))) ?_)
      apply_assumption -exfalso -symm
      refine Do.ret ?_
      simp [endQ, rets, ret1, go_sem]
      repeat (refine And.intro (by first | omega | (intros; omega) | (intros; exact And.intro (by assumption) (by omega))) ?_)
      rw [ec]
      exact ret_ci (PLe.ext _) rfl
    · repeat (refine Do.seqk fun _ _ => ?_)
      refine Do.cond [0,1,6,7,8,9,10] rfl (fun h3 => ?_) (fun h3 => ?_) <;> simp [go_sem] at h3 ⊢
      repeat (refine Do.seqk fun _ _ => ?_)
      refine Do.region [0,1,6,7,8,9,10,38] true ?_
      simp [go_sem]
      repeat (refine And.intro (by first | omega | (intros; omega) | (intros; exact And.intro (by assumption) (by omega))) ?_)
      apply_assumption -exfalso -symm
      repeat (refine Do.seqk fun _ _ => ?_)
      refine Do.cond [0,1,6,7,8,9,10] rfl (fun h4 => ?_) (fun h4 => ?_) <;> simp [go_sem] at h4 ⊢
      repeat (refine Do.seqk fun _ _ => ?_)
      refine Do.region [0,1,6,7,8,9,10,40] true ?_
      simp [go_sem]
      repeat (refine And.intro (by first | omega | (intros; omega) | (intros; exact And.intro (by assumption) (by omega))) ?_)
      apply_assumption -exfalso -symm
      repeat (refine Do.seqk fun _ _ => ?_)
      refine Do.cond [0,1,6,7,8] rfl (fun h5 => ?_) (fun h5 => ?_) <;> simp [go_sem] at h5 ⊢
      repeat (refine Do.seqk fun _ _ => ?_)
      refine Do.region [0,1,6,7,8] true ?_
      simp [go_sem]
      repeat (refine And.intro (by first | omega | (intros; omega) | (intros; exact And.intro (by assumption) (by omega))) ?_)
      apply_assumption -exfalso -symm
      repeat (refine Do.seqk fun _ _ => ?_)
      refine Do.region [6,7] true ?_
      simp [go_sem]
      repeat (refine And.intro (by first | omega | (intros; omega) | (intros; exact And.intro (by assumption) (by omega))) ?_)
      refine DoL.call true 0 rfl rfl rfl rfl (by first | exact trivial | omega | (simp; done) | (simp; omega)) (hshr) rfl (by first | exact .inl rfl | exact .inr rfl) rfl ?_
      simp [go_sem]
      repeat (refine And.intro (by first | omega | (intros; omega) | (intros; exact And.intro (by assumption) (by omega))) ?_)
      apply_assumption -exfalso -symm
      refine Do.ret ?_
      simp [endQ, rets, ret1, go_sem]
      repeat (refine And.intro (by first | omega | (intros; omega) | (intros; exact And.intro (by assumption) (by omega))) ?_)
      rw [ec]
      exact ret_ci (PLe.ext _) rfl
    · repeat (refine Do.seqk fun _ _ => ?_)
      refine Do.cond [0,1,6,7,8,9,10] rfl (fun h3 => ?_) (fun h3 => ?_) <;> simp [go_sem] at h3 ⊢
      repeat (refine Do.seqk fun _ _ => ?_)
      refine Do.region [0,1,6,7,8,9,10,38] true ?_
      simp [go_sem]
      repeat (refine And.intro (by first | omega | (intros; omega) | (intros; exact And.intro (by assumption) (by omega))) ?_)
      apply_assumption -exfalso -symm
      repeat (refine Do.seqk fun _ _ => ?_)
      refine Do.cond [0,1,6,7,8,9,10] rfl (fun h4 => ?_) (fun h4 => ?_) <;> simp [go_sem] at h4 ⊢
      repeat (refine Do.seqk fun _ _ => ?_)
      refine Do.region [0,1,6,7,8] true ?_
      simp [go_sem]
      repeat (refine And.intro (by first | omega | (intros; omega) | (intros; exact And.intro (by assumption) (by omega))) ?_)
      apply_assumption -exfalso -symm
      repeat (refine Do.seqk fun _ _ => ?_)
      refine Do.region [6,7] true ?_
      simp [go_sem]
      repeat (refine And.intro (by first | omega | (intros; omega) | (intros; exact And.intro (by assumption) (by omega))) ?_)
      refine DoL.call true 0 rfl rfl rfl rfl (by first | exact trivial | omega | (simp; done) | (simp; omega)) (hshr) rfl (by first | exact .inl rfl | exact .inr rfl) rfl ?_
      simp [go_sem]
      repeat (refine And.intro (by first | omega | (intros; omega) | (intros; exact And.intro (by assumption) (by omega))) ?_)
      apply_assumption -exfalso -symm
      refine Do.ret ?_
      simp [endQ, rets, ret1, go_sem]
      repeat (refine And.intro (by first | omega | (intros; omega) | (intros; exact And.intro (by assumption) (by omega))) ?_)
      rw [ec]
      exact ret_ci (PLe.ext _) rfl
    · repeat (refine Do.seqk fun _ _ => ?_)
      refine Do.cond [0,1,6,7,8,9,10] rfl (fun h3 => ?_) (fun h3 => ?_) <;> simp [go_sem] at h3 ⊢
      repeat (refine Do.seqk fun _ _ => ?_)
      refine Do.region [0,1,6,7,8] true ?_
      simp [go_sem]
      repeat (refine And.intro (by first | omega | (intros; omega) | (intros; exact And.intro (by assumption) (by omega))) ?_)
      apply_assumption -exfalso -symm
      repeat (refine Do.seqk fun _ _ => ?_)
      refine Do.region [6,7] true ?_
      simp [go_sem]
      repeat (refine And.intro (by first | omega | (intros; omega) | (intros; exact And.intro (by assumption) (by omega))) ?_)
      refine DoL.call true 0 rfl rfl rfl rfl (by first | exact trivial | omega | (simp; done) | (simp; omega)) (hshr) rfl (by first | exact .inl rfl | exact .inr rfl) rfl ?_
      simp [go_sem]
      repeat (refine And.intro (by first | omega | (intros; omega) | (intros; exact And.intro (by assumption) (by omega))) ?_)
      apply_assumption -exfalso -symm
      refine Do.ret ?_
      simp [endQ, rets, ret1, go_sem]
      repeat (refine And.intro (by first | omega | (intros; omega) | (intros; exact And.intro (by assumption) (by omega))) ?_)
      rw [ec]
      exact ret_ci (PLe.ext _) rfl
end Go.Proofs.YtbhokdhkfodpfaaGreatDoor
/- The limits of a format. No condition. -/
namespace Go.Proofs.YtbhokdhkfodpfaaGreatDoor
set_option linter.unusedVariables false
set_option linter.unusedSimpArgs false
variable {G : Gl}
set_option maxHeartbeats 1000000
theorem nat_one : nat 1 = [1] := by unfold nat; rw [dif_neg (by omega)]; unfold nat; rfl
theorem power_does {e : Int} : Does Tryz.prog G 160 [.c (.i .i64 e)] (.v (Flt.mk 1 false e 1).pv) := by
  refine Does.of (nt := 6) (Tryz.func160) rfl rfl rfl (by simp) ?_
  simp only [argTm, PV.ext, Ce.ext]
  repeat (refine Do.seqk fun _ _ => ?_)
  refine Do.region [0,2] true ?_
  simp [go_sem]
  repeat (refine And.intro (by first | omega | (intros; omega) | (intros; exact And.intro (by assumption) (by omega))) ?_)
  apply_assumption -exfalso -symm
  repeat (refine Do.seqk fun _ _ => ?_)
  refine Do.region [2] true ?_
  simp [go_sem]
  repeat (refine And.intro (by first | omega | (intros; omega) | (intros; exact And.intro (by assumption) (by omega))) ?_)
  apply_assumption -exfalso -symm
  refine Do.frz 101 rfl ?_
  simp [go_sem]
  refine Do.ret ?_
  simp [endQ, rets, ret1, go_sem]
  repeat (refine And.intro (by first | omega | (intros; omega) | (intros; exact And.intro (by assumption) (by omega))) ?_)
  exact TLe.v (PLe.flt (by simp only []; rw [nat_one]; exact PLe.ext _))
theorem Limits_does {f p : Int} (hf : fmOk f p = true) : Does Tryz.prog G 145 [Fm f p] (.t [(Flt.mk 1 false (gOfE f - p + 1) (2 ^ p.toNat - 1)).pv, (Flt.mk 1 false (1 - gOfE f) 1).pv, (Flt.mk 1 false (1 - gOfE f - (p - 1)) 1).pv, .c (.i .i64 0)]) := by
  obtain ⟨b1, b2, b3, b4⟩ := fmOk_spec hf
  obtain ⟨b5, b6⟩ := gOfE_le b1 b2
  obtain ⟨q, rfl⟩ : ∃ q : Nat, p = q := ⟨p.toNat, by omega⟩
  rw [show (q : Int).toNat = q by omega]
  have hw1 : Ws [1] := fun w hw => by simp at hw; omega
  have one_ : Sh [1] ∧ [1].length < 1099511627775 := by decide
  refine Does.of (nt := 43) (Tryz.func145) rfl rfl rfl (by simp) ?_
  simp only [argTm, PV.ext, Ce.ext]
  repeat (refine Do.seqk fun _ _ => ?_)
  refine Do.region [1,2,3,4,5] true ?_
  simp [go_sem]
  repeat (refine And.intro (by first | omega | (intros; omega) | (intros; exact And.intro (by assumption) (by omega))) ?_)
  apply_assumption -exfalso -symm
  repeat (refine Do.seqk fun _ _ => ?_)
  refine Do.region [1,2,3,4,5,6,7,8] true ?_
  simp [go_sem]
  repeat (refine And.intro (by first | omega | (intros; omega) | (intros; exact And.intro (by assumption) (by omega))) ?_)
  refine DoL.call true 0 rfl rfl rfl rfl (by first | exact trivial | omega | (simp; done) | (simp; omega)) (Range_does hf) rfl (by first | exact .inl rfl | exact .inr rfl) rfl ?_
  simp [go_sem]
  repeat (refine And.intro (by first | omega | (intros; omega) | (intros; exact And.intro (by assumption) (by omega))) ?_)
  apply_assumption -exfalso -symm
  repeat (refine Do.seqk fun _ _ => ?_)
  refine Do.region [1,2,3,4,5,6,7,8,19] true ?_
  simp [go_sem]
  repeat (refine And.intro (by first | omega | (intros; omega) | (intros; exact And.intro (by assumption) (by omega))) ?_)
  apply_assumption -exfalso -symm
  repeat (refine Do.seqk fun _ _ => ?_)
  refine Do.cond [1,2,3,4,5,6,7,8] rfl (fun h => ?_) (fun h => ?_) <;> simp [go_sem] at h ⊢
  refine Do.skip ?_
  simp [go_sem]
  apply_assumption -exfalso -symm
  repeat (refine Do.seqk fun _ _ => ?_)
  refine Do.region [1,2,3,4,5,6,7,8,9] true ?_
  simp [go_sem]
  repeat (refine And.intro (by first | omega | (intros; omega) | (intros; exact And.intro (by assumption) (by omega))) ?_)
  apply_assumption -exfalso -symm
  repeat (refine Do.seqk fun _ _ => ?_)
  refine Do.region [1,2,3,4,5,6,7,8,9,10] true ?_
  simp [go_sem]
  repeat (refine And.intro (by first | omega | (intros; omega) | (intros; exact And.intro (by assumption) (by omega))) ?_)
  have v1 : val [1] = 1 := by simp [val]
  have hshl := @Shl_does G [1] one_.1 hw1 q (by simp; omega)
  rw [v1, Nat.one_mul] at hshl
  have hb : bl (2 ^ q) = q + 1 := by have := bl_mul_pow 1 q (by omega); rw [Nat.one_mul] at this; rw [this]; rfl
  have hlen := nat_len_bl (2 ^ q)
  have hpos : 1 ≤ 2 ^ q := Nat.pow_pos (by omega)
  have hsub := @Sub_does G (nat (2 ^ q)) [1] (by omega) one_.1 (nat_ws _) hw1 (by rw [val_nat, v1]; exact hpos)
  rw [val_nat, v1] at hsub
  refine DoL.call true 520 rfl rfl rfl rfl (by first | exact trivial | omega | (simp; done) | (simp; omega)) (hshl) rfl (by first | exact .inl rfl | exact .inr rfl) rfl ?_
  simp [go_sem]
  repeat (refine And.intro (by first | omega | (intros; omega) | (intros; exact And.intro (by assumption) (by omega))) ?_)
  refine DoL.call true 0 rfl rfl rfl rfl (by first | exact trivial | omega | (simp; done) | (simp; omega)) (hsub) rfl (by first | exact .inl rfl | exact .inr rfl) rfl ?_
  simp [go_sem]
  repeat (refine And.intro (by first | omega | (intros; omega) | (intros; exact And.intro (by assumption) (by omega))) ?_)
  apply_assumption -exfalso -symm
  repeat (refine Do.seqk fun _ _ => ?_)
  refine Do.draw [2,3,4,5] true (by kernel_rfl) ?_
  simp [go_sem]
  repeat (refine And.intro (by first | omega | (intros; omega) | (intros; exact And.intro (by assumption) (by omega))) ?_)
  refine DoLD.call true 0 rfl rfl rfl rfl (by first | exact trivial | omega | (simp; done) | (simp; omega)) (power_does) rfl (by first | exact .inl rfl | exact .inr rfl) rfl ?_
  simp [go_sem]
  repeat (refine And.intro (by first | omega | (intros; omega) | (intros; exact And.intro (by assumption) (by omega))) ?_)
  refine DoLD.call true 50 rfl rfl rfl rfl (by first | exact trivial | omega | (simp; done) | (simp; omega)) (power_does) rfl (by first | exact .inl rfl | exact .inr rfl) rfl ?_
  simp [go_sem]
  repeat (refine And.intro (by first | omega | (intros; omega) | (intros; exact And.intro (by assumption) (by omega))) ?_)
  refine And.intro (by kernel_rfl) ?_
  apply_assumption -exfalso -symm
  refine Do.ret ?_
  simp [endQ, rets, ret1, go_sem]
  repeat (refine And.intro (by first | omega | (intros; omega) | (intros; exact And.intro (by assumption) (by omega))) ?_)
  exact TLe.t (.cons (PLe.flt (PLe.ext _)) (.cons (PLe.refl _) (.cons (PLe.refl _) (.cons (PLe.refl _) .nil))))
end Go.Proofs.YtbhokdhkfodpfaaGreatDoor
/- Rounding to a format. No condition. -/
namespace Go.Proofs.YtbhokdhkfodpfaaGreatDoor
set_option linter.unusedVariables false
set_option linter.unusedSimpArgs false
set_option maxHeartbeats 2000000
/-- (v + a little, if st) 2^e, rounded to a format, and the flags. -/
def roundP (f p r : Int) (n : Bool) (v : Nat) (e : Int) (st : Bool) : Flt × Int :=
  let E := e + bl v - 1
  let u := stepP f p E
  let c := cutP v (u - e) st
  let q := upP r n c.1 c.2
  if gOfE f < u + bl q - 1 then (if grP r n then ⟨1, n, gOfE f - p + 1, 2 ^ p.toNat - 1⟩ else ⟨2, n, 0, 0⟩, 5)
  else (mkP n q u, if c.2 = 0 then 0 else if E < 1 - gOfE f then 3 else 1)
theorem cutP_bl (v : Nat) (s : Int) (st : Bool) : bl (cutP v s st).1 ≤ bl v + (-s).toNat := by
  unfold cutP
  split
  · simp only []
    rcases Nat.eq_zero_or_pos v with h | h
    · subst h; simp [bl]
    · rw [bl_mul_pow _ _ h]; omega
  · simp only []
    exact Nat.le_trans (bl_mono (Nat.div_le_self _ _)) (Nat.le_add_right _ _)
theorem upP_bl (r : Int) (n : Bool) (q : Nat) (x : Int) : bl (upP r n q x) ≤ bl q + 1 := by
  unfold upP
  split
  · rcases Nat.eq_zero_or_pos q with h0 | h0
    · subst h0; decide
    · exact bl_add_le q 1 (bl q) (Nat.le_refl _) (bl_mono h0)
  · omega
theorem Float_does {f p r : Int} (hf : fmOk f p = true) (hr : 0 ≤ r) (hr' : r ≤ 4) {n : Bool} {v : Nat} {e : Int} {st : Bool} (h1 : -4194304 ≤ e) (h2 : e + bl v ≤ 4194304) : Does Tryz.prog Gv 109 [Fm f p, .c (.i .i64 r), .c (.b n), Wd (nat v), .c (.i .i64 e), .c (.b st)] (.t [(roundP f p r n v e st).1.pv, .c (.i .i64 (roundP f p r n v e st).2)]) := by
  obtain ⟨b1, b2, b3, b4⟩ := fmOk_spec hf
  obtain ⟨b5, b6⟩ := gOfE_le b1 b2
  have hlen := nat_len_bl v
  refine Does.of (nt := 90) (Tryz.func109) rfl rfl rfl (by simp) ?_
  simp only [argTm, PV.ext, Ce.ext]
  repeat (refine Do.seqk fun _ _ => ?_)
  refine Do.region [1,2,3,4,5,6,12,13] true ?_
  simp [go_sem]
  repeat (refine And.intro (by first | omega | (intros; omega) | (intros; exact And.intro (by assumption) (by omega))) ?_)
  apply_assumption -exfalso -symm
  repeat (refine Do.seqk fun _ _ => ?_)
  refine Do.region [1,2,3,4,5,6,12,13,14,15] true ?_
  simp [go_sem]
  repeat (refine And.intro (by first | omega | (intros; omega) | (intros; exact And.intro (by assumption) (by omega))) ?_)
  refine DoL.call true 0 rfl rfl rfl rfl (by first | exact trivial | omega | (simp; done) | (simp; omega)) (Range_does hf) rfl (by first | exact .inl rfl | exact .inr rfl) rfl ?_
  simp [go_sem]
  repeat (refine And.intro (by first | omega | (intros; omega) | (intros; exact And.intro (by assumption) (by omega))) ?_)
  apply_assumption -exfalso -symm
  repeat (refine Do.seqk fun _ _ => ?_)
  refine Do.region [1,2,3,4,5,6,12,13,14,15,18] true ?_
  simp [go_sem]
  repeat (refine And.intro (by first | omega | (intros; omega) | (intros; exact And.intro (by assumption) (by omega))) ?_)
  refine DoL.call true 0 rfl rfl rfl rfl (by first | exact trivial | omega | (simp; done) | (simp; omega)) (Len_does (x := nat v) (by omega) (nat_ws _)) rfl (by first | exact .inl rfl | exact .inr rfl) rfl ?_
  simp [go_sem]
  repeat (refine And.intro (by first | omega | (intros; omega) | (intros; exact And.intro (by assumption) (by omega))) ?_)
  apply_assumption -exfalso -symm
  repeat (refine Do.seqk fun _ _ => ?_)
  refine Do.region [1,2,3,4,5,6,12,13,14,15,18,19] true ?_
  simp [go_sem]
  repeat (refine And.intro (by first | omega | (intros; omega) | (intros; exact And.intro (by assumption) (by omega))) ?_)
  refine DoL.call true 0 rfl rfl rfl rfl (by first | exact trivial | omega | (simp; done) | (simp; omega)) (Step_does hf (by omega) (by omega)) rfl (by first | exact .inl rfl | exact .inr rfl) rfl ?_
  simp [go_sem]
  repeat (refine And.intro (by first | omega | (intros; omega) | (intros; exact And.intro (by assumption) (by omega))) ?_)
  apply_assumption -exfalso -symm
  have hu : -5000000 ≤ stepP f p (e + bl v - 1) ∧ stepP f p (e + bl v - 1) ≤ 5000000 := by unfold stepP; split <;> omega
  have hR : roundP f p r n v e st = roundP f p r n v e st := rfl
  conv at hR => rhs; unfold roundP; simp only []
  generalize stepP f p (e + bl v - 1) = u at *
  repeat (refine Do.seqk fun _ _ => ?_)
  refine Do.region [1,2,3,4,5,6,12,13,14,15,18,19,20,21] true ?_
  simp [go_sem]
  repeat (refine And.intro (by first | omega | (intros; omega) | (intros; exact And.intro (by assumption) (by omega))) ?_)
  have hc := cutP_bl v (u - e) st
  have hcut := @cut_does (nat v) (u - e) st (by omega) (nat_ws _) (by omega) (by omega)
  rw [val_nat] at hcut
  generalize cutP v (u - e) st = c at *
  refine DoL.call true 0 rfl rfl rfl rfl (by first | exact trivial | omega | (simp; done) | (simp; omega)) (hcut) rfl (by first | exact .inl rfl | exact .inr rfl) rfl ?_
  simp [go_sem]
  repeat (refine And.intro (by first | omega | (intros; omega) | (intros; exact And.intro (by assumption) (by omega))) ?_)
  apply_assumption -exfalso -symm
  have hq := upP_bl r n c.1 c.2
  have hcl := nat_len_bl c.1
  have hup := @up_does r n (nat c.1) c.2 hr hr' (by omega) (nat_ws _)
  rw [val_nat] at hup
  generalize upP r n c.1 c.2 = q at *
  repeat (refine Do.seqk fun _ _ => ?_)
  refine Do.region [1,2,3,4,5,6,12,13,14,15,18,19,20,21] true ?_
  simp [go_sem]
  repeat (refine And.intro (by first | omega | (intros; omega) | (intros; exact And.intro (by assumption) (by omega))) ?_)
  refine DoL.call true 0 rfl rfl rfl rfl (by first | exact trivial | omega | (simp; done) | (simp; omega)) (hup) rfl (by first | exact .inl rfl | exact .inr rfl) rfl ?_
  simp [go_sem]
  repeat (refine And.intro (by first | omega | (intros; omega) | (intros; exact And.intro (by assumption) (by omega))) ?_)
  apply_assumption -exfalso -symm
  have hql := nat_len_bl q
  repeat (refine Do.seqk fun _ _ => ?_)
  refine Do.region [1,2,3,4,5,6,12,13,14,15,18,19,20,21,62] true ?_
  simp [go_sem]
  repeat (refine And.intro (by first | omega | (intros; omega) | (intros; exact And.intro (by assumption) (by omega))) ?_)
  refine DoL.call true 0 rfl rfl rfl rfl (by first | exact trivial | omega | (simp; done) | (simp; omega)) (Len_does (x := nat q) (by omega) (nat_ws _)) rfl (by first | exact .inl rfl | exact .inr rfl) rfl ?_
  simp [go_sem]
  repeat (refine And.intro (by first | omega | (intros; omega) | (intros; exact And.intro (by assumption) (by omega))) ?_)
  apply_assumption -exfalso -symm
  repeat (refine Do.seqk fun _ _ => ?_)
  refine Do.cond [1,2,3,4,5,6,12,13,14,15,18,19,20,21] rfl (fun h => ?_) (fun h => ?_) <;> simp [go_sem] at h ⊢
  · repeat (refine Do.seqk fun _ _ => ?_)
    refine Do.region [1,2,3,4,5,6,12,13,14,15,18,19,20,21,65] true ?_
    simp [go_sem]
    repeat (refine And.intro (by first | omega | (intros; omega) | (intros; exact And.intro (by assumption) (by omega))) ?_)
    refine DoL.call true 0 rfl rfl rfl rfl (by first | exact trivial | omega | (simp; done) | (simp; omega)) (greatest_does) rfl (by first | exact .inl rfl | exact .inr rfl) rfl ?_
    simp [go_sem]
    repeat (refine And.intro (by first | omega | (intros; omega) | (intros; exact And.intro (by assumption) (by omega))) ?_)
    apply_assumption -exfalso -symm
    rw [if_pos h] at hR
    repeat (refine Do.seqk fun _ _ => ?_)
    refine Do.cond [1,2,3,4,5,6,12,13,14,15,18,19,20,21] rfl (fun h3 => ?_) (fun h3 => ?_) <;> simp [go_sem] at h3 ⊢
    · rw [if_pos h3] at hR
      repeat (refine Do.seqk fun _ _ => ?_)
      refine Do.region [2,6,12,13,22] true ?_
      simp [go_sem]
      repeat (refine And.intro (by first | omega | (intros; omega) | (intros; exact And.intro (by assumption) (by omega))) ?_)
      refine DoL.call true 800 rfl rfl rfl rfl (by first | exact trivial | omega | (simp; done) | (simp; omega)) (Limits_does hf) rfl (by first | exact .inl rfl | exact .inr rfl) rfl ?_
      simp [go_sem]
      repeat (refine And.intro (by first | omega | (intros; omega) | (intros; exact And.intro (by assumption) (by omega))) ?_)
      apply_assumption -exfalso -symm
      repeat (refine Do.seqk fun _ _ => ?_)
      refine Do.region [2,6,12,13,22] true ?_
      simp [go_sem]
      repeat (refine And.intro (by first | omega | (intros; omega) | (intros; exact And.intro (by assumption) (by omega))) ?_)
      apply_assumption -exfalso -symm
      repeat (refine Do.seqk fun _ _ => ?_)
      refine Do.region [12,13] true ?_
      simp [go_sem]
      repeat (refine And.intro (by first | omega | (intros; omega) | (intros; exact And.intro (by assumption) (by omega))) ?_)
      apply_assumption -exfalso -symm
      refine Do.ret ?_
      simp [endQ, rets, ret1, go_sem]
      repeat (refine And.intro (by first | omega | (intros; omega) | (intros; exact And.intro (by assumption) (by omega))) ?_)
      rw [hR]
      exact TLe.t (.cons (PLe.refl _) (.cons (PLe.refl _) .nil))
    · refine Do.skip ?_
      simp [go_sem]
      apply_assumption -exfalso -symm
      repeat (refine Do.seqk fun _ _ => ?_)
      refine Do.region [12,13] true ?_
      simp [go_sem]
      repeat (refine And.intro (by first | omega | (intros; omega) | (intros; exact And.intro (by assumption) (by omega))) ?_)
      apply_assumption -exfalso -symm
      refine Do.ret ?_
      simp [endQ, rets, ret1, go_sem]
      repeat (refine And.intro (by first | omega | (intros; omega) | (intros; exact And.intro (by assumption) (by omega))) ?_)
      rw [hR, if_neg (by rw [h3]; exact Bool.false_ne_true)]
      exact TLe.t (.cons (PLe.flt (ret_z rfl)) (.cons (PLe.refl _) .nil))
  · refine Do.skip ?_
    simp [go_sem]
    apply_assumption -exfalso -symm
    rw [if_neg (by omega)] at hR
    repeat (refine Do.seqk fun _ _ => ?_)
    refine Do.region [1,2,3,4,5,6,12,13,14,15,18,19,20,21,26] true ?_
    simp [go_sem]
    repeat (refine And.intro (by first | omega | (intros; omega) | (intros; exact And.intro (by assumption) (by omega))) ?_)
    apply_assumption -exfalso -symm
    have hmk := @Make_does n (nat q) u (by omega) (nat_ws _) (by omega) (by omega)
    rw [val_nat] at hmk
    repeat (refine Do.seqk fun _ _ => ?_)
    refine Do.region [1,2,3,4,5,6,12,13,14,15,18,19,20,21,26,79] true ?_
    simp [go_sem]
    repeat (refine And.intro (by first | omega | (intros; omega) | (intros; exact And.intro (by assumption) (by omega))) ?_)
    apply_assumption -exfalso -symm
    repeat (refine Do.seqk fun _ _ => ?_)
    refine Do.cond [1,2,3,4,5,6,12,13,14,15,18,19,20,21,26] rfl (fun h3 => ?_) (fun h3 => ?_) <;> simp [go_sem] at h3 ⊢
    · repeat (refine Do.seqk fun _ _ => ?_)
      refine Do.region [1,2,3,4,5,6,12,13,14,15,18,19,20,21,26] true ?_
      simp [go_sem]
      repeat (refine And.intro (by first | omega | (intros; omega) | (intros; exact And.intro (by assumption) (by omega))) ?_)
      apply_assumption -exfalso -symm
      repeat (refine Do.seqk fun _ _ => ?_)
      refine Do.region [1,2,3,4,5,6,12,13,14,15,18,19,20,21,26,82] true ?_
      simp [go_sem]
      repeat (refine And.intro (by first | omega | (intros; omega) | (intros; exact And.intro (by assumption) (by omega))) ?_)
      apply_assumption -exfalso -symm
      repeat (refine Do.seqk fun _ _ => ?_)
      refine Do.cond [1,2,3,4,5,6,12,13,14,15,18,19,20,21,26] rfl (fun h4 => ?_) (fun h4 => ?_) <;> simp [go_sem] at h4 ⊢
      · repeat (refine Do.seqk fun _ _ => ?_)
        refine Do.region [1,2,3,4,5,6,12,13,14,15,18,19,20,21,26] true ?_
        simp [go_sem]
        repeat (refine And.intro (by first | omega | (intros; omega) | (intros; exact And.intro (by assumption) (by omega))) ?_)
        apply_assumption -exfalso -symm
        repeat (refine Do.seqk fun _ _ => ?_)
        refine Do.region [12,13] true ?_
        simp [go_sem]
        repeat (refine And.intro (by first | omega | (intros; omega) | (intros; exact And.intro (by assumption) (by omega))) ?_)
        refine DoL.call true 0 rfl rfl rfl rfl (by first | exact trivial | omega | (simp; done) | (simp; omega)) (hmk) rfl (by first | exact .inl rfl | exact .inr rfl) rfl ?_
        simp [go_sem]
        repeat (refine And.intro (by first | omega | (intros; omega) | (intros; exact And.intro (by assumption) (by omega))) ?_)
        apply_assumption -exfalso -symm
        refine Do.ret ?_
        simp [endQ, rets, ret1, go_sem]
        repeat (refine And.intro (by first | omega | (intros; omega) | (intros; exact And.intro (by assumption) (by omega))) ?_)
        rw [hR]
        exact TLe.t (.cons (PLe.refl _) (.cons (by rw [if_neg h3, if_pos h4]; exact PLe.refl _) .nil))
      · refine Do.skip ?_
        simp [go_sem]
        apply_assumption -exfalso -symm
        repeat (refine Do.seqk fun _ _ => ?_)
        refine Do.region [12,13] true ?_
        simp [go_sem]
        repeat (refine And.intro (by first | omega | (intros; omega) | (intros; exact And.intro (by assumption) (by omega))) ?_)
        refine DoL.call true 0 rfl rfl rfl rfl (by first | exact trivial | omega | (simp; done) | (simp; omega)) (hmk) rfl (by first | exact .inl rfl | exact .inr rfl) rfl ?_
        simp [go_sem]
        repeat (refine And.intro (by first | omega | (intros; omega) | (intros; exact And.intro (by assumption) (by omega))) ?_)
        apply_assumption -exfalso -symm
        refine Do.ret ?_
        simp [endQ, rets, ret1, go_sem]
        repeat (refine And.intro (by first | omega | (intros; omega) | (intros; exact And.intro (by assumption) (by omega))) ?_)
        rw [hR]
        exact TLe.t (.cons (PLe.refl _) (.cons (by rw [if_neg h3, if_neg (by omega)]; exact PLe.refl _) .nil))
    · refine Do.skip ?_
      simp [go_sem]
      apply_assumption -exfalso -symm
      repeat (refine Do.seqk fun _ _ => ?_)
      refine Do.region [12,13] true ?_
      simp [go_sem]
      repeat (refine And.intro (by first | omega | (intros; omega) | (intros; exact And.intro (by assumption) (by omega))) ?_)
      refine DoL.call true 0 rfl rfl rfl rfl (by first | exact trivial | omega | (simp; done) | (simp; omega)) (hmk) rfl (by first | exact .inl rfl | exact .inr rfl) rfl ?_
      simp [go_sem]
      repeat (refine And.intro (by first | omega | (intros; omega) | (intros; exact And.intro (by assumption) (by omega))) ?_)
      apply_assumption -exfalso -symm
      refine Do.ret ?_
      simp [endQ, rets, ret1, go_sem]
      repeat (refine And.intro (by first | omega | (intros; omega) | (intros; exact And.intro (by assumption) (by omega))) ?_)
      rw [hR]
      exact TLe.t (.cons (PLe.refl _) (.cons (by rw [if_pos h3]; exact PLe.refl _) .nil))
end Go.Proofs.YtbhokdhkfodpfaaGreatDoor
/- Rounding a number. No condition. -/
namespace Go.Proofs.YtbhokdhkfodpfaaGreatDoor
set_option linter.unusedVariables false
set_option linter.unusedSimpArgs false
set_option maxHeartbeats 2000000
def Nu.round (x : Nu) (f p r : Int) (z : Bool) : Flt × Int := if x.v = 0 then (⟨0, z, 0, 0⟩, 0) else roundP f p r x.n x.v x.e false
theorem NFloat_does {f p r : Int} (hf : fmOk f p = true) (hr : 0 ≤ r) (hr' : r ≤ 4) {x : Nu} {z : Bool} (hx : x.Ok) : Does Tryz.prog Gv 92 [x.pv, Fm f p, .c (.i .i64 r), .c (.b z)] (.t [(x.round f p r z).1.pv, .c (.i .i64 (x.round f p r z).2)]) := by
  obtain ⟨n, v, e⟩ := x
  have hl := hx.len
  obtain ⟨h1, h2⟩ := hx
  simp only [] at h1 h2 hl
  have hR : Nu.round ⟨n, v, e⟩ f p r z = (if v = 0 then (⟨0, z, 0, 0⟩, 0) else roundP f p r n v e false) := rfl
  have hF := @Float_does f p r hf hr hr' n v e false h1 h2
  refine Does.of (nt := 25) (Tryz.func92) rfl rfl rfl (by simp) ?_
  simp only [argTm, PV.ext, Ce.ext]
  repeat (refine Do.seqk fun _ _ => ?_)
  refine Do.region [2,3,4,5,8,9] true ?_
  simp [go_sem]
  repeat (refine And.intro (by first | omega | (intros; omega) | (intros; exact And.intro (by assumption) (by omega))) ?_)
  apply_assumption -exfalso -symm
  repeat (refine Do.seqk fun _ _ => ?_)
  refine Do.region [2,3,4,5,8,9,11] true ?_
  simp [go_sem]
  repeat (refine And.intro (by first | omega | (intros; omega) | (intros; exact And.intro (by assumption) (by omega))) ?_)
  refine DoL.call true 0 rfl rfl rfl rfl (by first | exact trivial | omega | (simp; done) | (simp; omega)) (NZero_does (m := nat v) (by omega)) rfl (by first | exact .inl rfl | exact .inr rfl) rfl ?_
  simp [go_sem]
  repeat (refine And.intro (by first | omega | (intros; omega) | (intros; exact And.intro (by assumption) (by omega))) ?_)
  apply_assumption -exfalso -symm
  repeat (refine Do.seqk fun _ _ => ?_)
  refine Do.cond [2,3,4,5,8,9] rfl (fun h => ?_) (fun h => ?_) <;> simp [go_sem] at h ⊢
  · repeat (refine Do.seqk fun _ _ => ?_)
    refine Do.region [8,9] true ?_
    simp [go_sem]
    repeat (refine And.intro (by first | omega | (intros; omega) | (intros; exact And.intro (by assumption) (by omega))) ?_)
    apply_assumption -exfalso -symm
    refine Do.ret ?_
    simp [endQ, rets, ret1, go_sem]
    repeat (refine And.intro (by first | omega | (intros; omega) | (intros; exact And.intro (by assumption) (by omega))) ?_)
    rw [hR, if_pos h]
    exact TLe.t (.cons (PLe.flt (ret_z rfl)) (.cons (PLe.refl _) .nil))
  · refine Do.skip ?_
    simp [go_sem]
    apply_assumption -exfalso -symm
    repeat (refine Do.seqk fun _ _ => ?_)
    refine Do.region [8,9] true ?_
    simp [go_sem]
    repeat (refine And.intro (by first | omega | (intros; omega) | (intros; exact And.intro (by assumption) (by omega))) ?_)
    refine DoL.call true 0 rfl rfl rfl rfl (by first | exact trivial | omega | (simp; done) | (simp; omega)) (hF) rfl (by first | exact .inl rfl | exact .inr rfl) rfl ?_
    simp [go_sem]
    repeat (refine And.intro (by first | omega | (intros; omega) | (intros; exact And.intro (by assumption) (by omega))) ?_)
    apply_assumption -exfalso -symm
    refine Do.ret ?_
    simp [endQ, rets, ret1, go_sem]
    repeat (refine And.intro (by first | omega | (intros; omega) | (intros; exact And.intro (by assumption) (by omega))) ?_)
    rw [hR, if_neg h]
    exact TLe.t (.cons (PLe.refl _) (.cons (PLe.refl _) .nil))
end Go.Proofs.YtbhokdhkfodpfaaGreatDoor
/- Lists of floats. No condition. -/
namespace Go.Proofs.YtbhokdhkfodpfaaGreatDoor
set_option linter.unusedVariables false
set_option linter.unusedSimpArgs false
set_option maxHeartbeats 2000000
/-- A float as it comes in. -/
structure Fla where
  k : Int
  n : Bool
  e : Int
  m : List Nat
abbrev Fla.cs (x : Fla) : List Ce := [.i .i64 x.k, .b x.n, .i .i64 x.e, .w false x.m]
def Fla.flt (x : Fla) : Flt := ⟨x.k, x.n, x.e, val x.m⟩
structure Fla.Ok (x : Fla) : Prop where
  sh : Sh x.m
  ws : Ws x.m
  e : I64 x.e
def Fla.nil : Fla := ⟨0, false, 0, []⟩
/-- Has one of them too many words? -/
def anyLarge (l : List Fla) : Bool := l.any fun x => decide (4096 < x.m.length)
abbrev Rows (l : List Fla) : PV := .s false (l.map Fla.cs)
theorem Args_size {f p r : Int} {b : Bool} {l : List Fla} (hl : l.length < 1099511627776) (ho : ∀ x ∈ l, x.Ok) (h : anyLarge l = true) : Does Tryz.prog Gv 65 [Fm f p, .c (.i .i64 r), .c (.b b), Rows l] (.t [.c .z, .c (.i .i64 2)]) := by
  refine Does.of (nt := 34) (Tryz.func65) rfl rfl rfl (by simp) ?_
  simp only [argTm, PV.ext, Ce.ext]
  repeat (refine Do.seqk fun _ _ => ?_)
  refine Do.region [1,2,3,4,8,9] true ?_
  simp [go_sem]
  repeat (refine And.intro (by first | omega | (intros; omega) | (intros; exact And.intro (by assumption) (by omega))) ?_)
  apply_assumption -exfalso -symm
  repeat (refine Do.seqk fun _ _ => ?_)
  refine Do.region [1,2,3,4,8,9,12,13,14] true ?_
  simp [go_sem]
  repeat (refine And.intro (by first | omega | (intros; omega) | (intros; exact And.intro (by assumption) (by omega))) ?_)
  apply_assumption -exfalso -symm
  repeat (refine Do.seqk fun _ _ => ?_)
  refine Do.block ?_
  refine Do.loop (fun i : Nat => ⟨[(1, .int .i64 r), (2, .bool b), (3, .v (Rows l)), (4, .v (.c (.p 0 0))), (8, .v (.c .z)), (9, .int .i64 0), (12, .v (Rows l)), (13, .int .i64 l.length), (14, .int .i64 i)], [(0, .box [.i .i64 f, .i .i64 p])]⟩) (fun i => i ≤ l.length ∧ ∀ j (hj : j < l.length), j < i → (l[j]'hj).m.length ≤ 4096) (fun i => l.length - i) 0 (St.le_of (by simp [keep]) rfl) ⟨Nat.zero_le _, fun j _ hj => absurd hj (Nat.not_lt_zero j)⟩ ?_
  rintro i ⟨hi, hz⟩
  repeat (refine Do.seqk fun _ _ => ?_)
  refine Do.region [1,2,3,4,8,9,12,13,14,15] true ?_
  simp [go_sem]
  repeat (refine And.intro (by first | omega | (intros; omega) | (intros; exact And.intro (by assumption) (by omega))) ?_)
  apply_assumption -exfalso -symm
  repeat (refine Do.seqk fun _ _ => ?_)
  refine Do.cond [1,2,3,4,8,9,12,13,14] rfl (fun h2 => ?_) (fun h2 => ?_) <;> simp [go_sem] at h2 ⊢
  · refine Do.skip ?_
    simp [go_sem]
    apply_assumption -exfalso -symm
    repeat (refine Do.seqk fun _ _ => ?_)
    refine Do.block ?_
    obtain ⟨x, hx⟩ : ∃ x, l[i]? = some x := ⟨_, List.getElem?_eq_getElem h2⟩
    have hxo := ho x (List.mem_of_getElem? hx)
    repeat (refine Do.seqk fun _ _ => ?_)
    refine Do.region [1,2,3,4,8,9,11,12,13,14] true ?_
    simp [go_sem, hx]
    repeat (refine And.intro (by first | omega | (intros; omega) | (intros; exact And.intro (by assumption) (by omega))) ?_)
    apply_assumption -exfalso -symm
    repeat (refine Do.seqk fun _ _ => ?_)
    refine Do.region [1,2,3,4,8,9,11,12,13,14,21] true ?_
    simp [go_sem]
    repeat (refine And.intro (by first | omega | (intros; omega) | (intros; exact And.intro (by assumption) (by omega))) ?_)
    apply_assumption -exfalso -symm
    repeat (refine Do.seqk fun _ _ => ?_)
    refine Do.cond [1,2,3,4,8,9,12,13,14] rfl (fun h3 => ?_) (fun h3 => ?_) <;> simp [go_sem] at h3 ⊢
    · repeat (refine Do.seqk fun _ _ => ?_)
      refine Do.region [8,9] true ?_
      simp [go_sem]
      repeat (refine And.intro (by first | omega | (intros; omega) | (intros; exact And.intro (by assumption) (by omega))) ?_)
      apply_assumption -exfalso -symm
      refine Do.ret ?_
      simp [endQ, rets, ret1, go_sem]
      repeat (refine And.intro (by first | omega | (intros; omega) | (intros; exact And.intro (by assumption) (by omega))) ?_)
      exact TLe.refl _
    · refine Do.skip ?_
      simp [go_sem]
      apply_assumption -exfalso -symm
      repeat (refine Do.seqk fun _ _ => ?_)
      refine Do.region [1,2,3,4,8,9,12,13,14] true ?_
      simp [go_sem]
      repeat (refine And.intro (by first | omega | (intros; omega) | (intros; exact And.intro (by assumption) (by omega))) ?_)
      refine ⟨i + 1, St.le_of rfl rfl, ⟨by omega, fun j hj hji => ?_⟩, by simp; omega⟩
      by_cases e : j = i
      · subst e
        rw [List.getElem?_eq_getElem hj] at hx; injection hx with hx; rw [hx]; omega
      · exact hz j hj (by omega)
  · exfalso
    simp only [anyLarge, List.any_eq_true, decide_eq_true_eq] at h
    obtain ⟨x, hx, h3⟩ := h
    obtain ⟨j, hj, e⟩ := List.getElem_of_mem hx
    have := hz j hj (by omega)
    rw [e] at this; omega
theorem Args_arg {f p r : Int} {b : Bool} {l : List Fla} (hl : l.length < 1099511627776) (h : ∀ x ∈ l, x.m.length ≤ 4096) (hr : (decide (0 ≤ r) && decide (r ≤ 4) && !b) = false) : Does Tryz.prog Gv 65 [Fm f p, .c (.i .i64 r), .c (.b b), Rows l] (.t [.c .z, .c (.i .i64 1)]) := by
  refine Does.of (nt := 34) (Tryz.func65) rfl rfl rfl (by simp) ?_
  simp only [argTm, PV.ext, Ce.ext]
  repeat (refine Do.seqk fun _ _ => ?_)
  refine Do.region [1,2,3,4,8,9] true ?_
  simp [go_sem]
  repeat (refine And.intro (by first | omega | (intros; omega) | (intros; exact And.intro (by assumption) (by omega))) ?_)
  apply_assumption -exfalso -symm
  repeat (refine Do.seqk fun _ _ => ?_)
  refine Do.region [1,2,3,4,8,9,12,13,14] true ?_
  simp [go_sem]
  repeat (refine And.intro (by first | omega | (intros; omega) | (intros; exact And.intro (by assumption) (by omega))) ?_)
  apply_assumption -exfalso -symm
  repeat (refine Do.seqk fun _ _ => ?_)
  refine Do.block ?_
  refine Do.loop (fun i : Nat => ⟨[(1, .int .i64 r), (2, .bool b), (3, .v (Rows l)), (4, .v (.c (.p 0 0))), (8, .v (.c .z)), (9, .int .i64 0), (12, .v (Rows l)), (13, .int .i64 l.length), (14, .int .i64 i)], [(0, .box [.i .i64 f, .i .i64 p])]⟩) (fun i => i ≤ l.length) (fun i => l.length - i) 0 (St.le_of (by simp [keep]) rfl) (Nat.zero_le _) ?_
  rintro i hi
  repeat (refine Do.seqk fun _ _ => ?_)
  refine Do.region [1,2,3,4,8,9,12,13,14,15] true ?_
  simp [go_sem]
  repeat (refine And.intro (by first | omega | (intros; omega) | (intros; exact And.intro (by assumption) (by omega))) ?_)
  apply_assumption -exfalso -symm
  repeat (refine Do.seqk fun _ _ => ?_)
  refine Do.cond [1,2,3,4,8,9,12,13,14] rfl (fun h2 => ?_) (fun h2 => ?_) <;> simp [go_sem] at h2 ⊢
  · refine Do.skip ?_
    simp [go_sem]
    apply_assumption -exfalso -symm
    repeat (refine Do.seqk fun _ _ => ?_)
    refine Do.block ?_
    obtain ⟨x, hx⟩ : ∃ x, l[i]? = some x := ⟨_, List.getElem?_eq_getElem h2⟩
    have hxm : x.m.length ≤ 4096 := h x (List.mem_of_getElem? hx)
    repeat (refine Do.seqk fun _ _ => ?_)
    refine Do.region [1,2,3,4,8,9,11,12,13,14] true ?_
    simp [go_sem, hx]
    repeat (refine And.intro (by first | omega | (intros; omega) | (intros; exact And.intro (by assumption) (by omega))) ?_)
    apply_assumption -exfalso -symm
    repeat (refine Do.seqk fun _ _ => ?_)
    refine Do.region [1,2,3,4,8,9,11,12,13,14,21] true ?_
    simp [go_sem]
    repeat (refine And.intro (by first | omega | (intros; omega) | (intros; exact And.intro (by assumption) (by omega))) ?_)
    apply_assumption -exfalso -symm
    repeat (refine Do.seqk fun _ _ => ?_)
    refine Do.cond [1,2,3,4,8,9,12,13,14] rfl (fun h3 => ?_) (fun h3 => ?_) <;> simp [go_sem] at h3 ⊢
    · omega
    · refine Do.skip ?_
      simp [go_sem]
      apply_assumption -exfalso -symm
      repeat (refine Do.seqk fun _ _ => ?_)
      refine Do.region [1,2,3,4,8,9,12,13,14] true ?_
      simp [go_sem]
      repeat (refine And.intro (by first | omega | (intros; omega) | (intros; exact And.intro (by assumption) (by omega))) ?_)
      exact ⟨i + 1, St.le_of rfl rfl, by omega, by simp; omega⟩
  · refine Do.exit ?_
    simp [go_sem]
    apply_assumption -exfalso -symm
    repeat (refine Do.seqk fun _ _ => ?_)
    refine Do.region [3,4,8,9,28] true ?_
    simp [go_sem]
    repeat (refine And.intro (by first | omega | (intros; omega) | (intros; exact And.intro (by assumption) (by omega))) ?_)
    refine DoL.call true 0 rfl rfl rfl rfl (by first | exact trivial | omega | (simp; done) | (simp; omega)) (Right_does) rfl (by first | exact .inl rfl | exact .inr rfl) rfl ?_
    simp [go_sem]
    repeat (refine And.intro (by first | omega | (intros; omega) | (intros; exact And.intro (by assumption) (by omega))) ?_)
    apply_assumption -exfalso -symm
    repeat (refine Do.seqk fun _ _ => ?_)
    refine Do.cond [3,4,8,9] rfl (fun h3 => ?_) (fun h3 => ?_) <;> simp [go_sem] at h3 ⊢
    · repeat (refine Do.seqk fun _ _ => ?_)
      refine Do.region [8,9] true ?_
      simp [go_sem]
      repeat (refine And.intro (by first | omega | (intros; omega) | (intros; exact And.intro (by assumption) (by omega))) ?_)
      apply_assumption -exfalso -symm
      refine Do.ret ?_
      simp [endQ, rets, ret1, go_sem]
      repeat (refine And.intro (by first | omega | (intros; omega) | (intros; exact And.intro (by assumption) (by omega))) ?_)
      exact TLe.refl _
    · exfalso
      simp [h3.1.1, h3.1.2, h3.2] at hr
end Go.Proofs.YtbhokdhkfodpfaaGreatDoor
/- The canonical floats of a list. No condition. -/
namespace Go.Proofs.YtbhokdhkfodpfaaGreatDoor
set_option linter.unusedVariables false
set_option linter.unusedSimpArgs false
set_option maxHeartbeats 2000000
/-- All of them are of the format. -/
def allHold (f p : Int) (l : List Fla) : Bool := l.all fun x => (holdsP f p x.flt).2
theorem Floats_fmt {f p : Int} {l : List Fla} (hl : l.length < 1099511627776) (h : ∀ x ∈ l, x.m.length ≤ 4096) (hf : fmOk f p = false) : Does Tryz.prog Gv 60 [Fm f p, Rows l] (.t [.c .z, .c (.i .i64 150)]) := by
  refine Does.of (nt := 48) (Tryz.func60) rfl rfl rfl (by simp) ?_
  simp only [argTm, PV.ext, Ce.ext]
  repeat (refine Do.seqk fun _ _ => ?_)
  refine Do.region [1,2,4,5] true ?_
  simp [go_sem]
  repeat (refine And.intro (by first | omega | (intros; omega) | (intros; exact And.intro (by assumption) (by omega))) ?_)
  apply_assumption -exfalso -symm
  repeat (refine Do.seqk fun _ _ => ?_)
  refine Do.region [1,2,4,5,14,15,16] true ?_
  simp [go_sem]
  repeat (refine And.intro (by first | omega | (intros; omega) | (intros; exact And.intro (by assumption) (by omega))) ?_)
  apply_assumption -exfalso -symm
  repeat (refine Do.seqk fun _ _ => ?_)
  refine Do.block ?_
  refine Do.loop (fun i : Nat => ⟨[(1, .v (Rows l)), (2, .v (.c (.p 0 0))), (4, .v (.c .z)), (5, .int .i64 0), (14, .v (Rows l)), (15, .int .i64 l.length), (16, .int .i64 i)], [(0, .box [.i .i64 f, .i .i64 p])]⟩) (fun i => i ≤ l.length) (fun i => l.length - i) 0 (St.le_of (by simp [keep]) rfl) (Nat.zero_le _) ?_
  rintro i hi
  repeat (refine Do.seqk fun _ _ => ?_)
  refine Do.region [1,2,4,5,14,15,16,17] true ?_
  simp [go_sem]
  repeat (refine And.intro (by first | omega | (intros; omega) | (intros; exact And.intro (by assumption) (by omega))) ?_)
  apply_assumption -exfalso -symm
  repeat (refine Do.seqk fun _ _ => ?_)
  refine Do.cond [1,2,4,5,14,15,16] rfl (fun h2 => ?_) (fun h2 => ?_) <;> simp [go_sem] at h2 ⊢
  · refine Do.skip ?_
    simp [go_sem]
    apply_assumption -exfalso -symm
    repeat (refine Do.seqk fun _ _ => ?_)
    refine Do.block ?_
    obtain ⟨x, hx⟩ : ∃ x, l[i]? = some x := ⟨_, List.getElem?_eq_getElem h2⟩
    have hxm : x.m.length ≤ 4096 := h x (List.mem_of_getElem? hx)
    repeat (refine Do.seqk fun _ _ => ?_)
    refine Do.region [1,2,4,5,7,14,15,16] true ?_
    simp [go_sem, hx]
    repeat (refine And.intro (by first | omega | (intros; omega) | (intros; exact And.intro (by assumption) (by omega))) ?_)
    apply_assumption -exfalso -symm
    repeat (refine Do.seqk fun _ _ => ?_)
    refine Do.region [1,2,4,5,7,14,15,16,21] true ?_
    simp [go_sem]
    repeat (refine And.intro (by first | omega | (intros; omega) | (intros; exact And.intro (by assumption) (by omega))) ?_)
    refine DoL.call true 0 rfl rfl rfl rfl (by first | exact trivial | omega | (simp; done) | (simp; omega)) (large_does (m := x.m) (by omega)) rfl (by first | exact .inl rfl | exact .inr rfl) rfl ?_
    simp [go_sem]
    repeat (refine And.intro (by first | omega | (intros; omega) | (intros; exact And.intro (by assumption) (by omega))) ?_)
    apply_assumption -exfalso -symm
    repeat (refine Do.seqk fun _ _ => ?_)
    refine Do.cond [1,2,4,5,14,15,16] rfl (fun h3 => ?_) (fun h3 => ?_) <;> simp [go_sem] at h3 ⊢
    · omega
    · refine Do.skip ?_
      simp [go_sem]
      apply_assumption -exfalso -symm
      repeat (refine Do.seqk fun _ _ => ?_)
      refine Do.region [1,2,4,5,14,15,16] true ?_
      simp [go_sem]
      repeat (refine And.intro (by first | omega | (intros; omega) | (intros; exact And.intro (by assumption) (by omega))) ?_)
      exact ⟨i + 1, St.le_of rfl rfl, by omega, by simp; omega⟩
  · refine Do.exit ?_
    simp [go_sem]
    apply_assumption -exfalso -symm
    repeat (refine Do.seqk fun _ _ => ?_)
    refine Do.region [1,2,4,5,8] true ?_
    simp [go_sem]
    repeat (refine And.intro (by first | omega | (intros; omega) | (intros; exact And.intro (by assumption) (by omega))) ?_)
    refine DoL.call true 0 rfl rfl rfl rfl (by first | exact trivial | omega | (simp; done) | (simp; omega)) (Check_does) rfl (by first | exact .inl rfl | exact .inr rfl) rfl ?_
    simp [go_sem]
    repeat (refine And.intro (by first | omega | (intros; omega) | (intros; exact And.intro (by assumption) (by omega))) ?_)
    rw [hf]
    apply_assumption -exfalso -symm
    repeat (refine Do.seqk fun _ _ => ?_)
    refine Do.region [1,2,4,5,8,26] true ?_
    simp [go_sem]
    repeat (refine And.intro (by first | omega | (intros; omega) | (intros; exact And.intro (by assumption) (by omega))) ?_)
    apply_assumption -exfalso -symm
    repeat (refine Do.seqk fun _ _ => ?_)
    refine Do.cond [1,2,4,5,8] rfl (fun h3 => ?_) (fun h3 => ?_) <;> simp [go_sem] at h3 ⊢
    repeat (refine Do.seqk fun _ _ => ?_)
    refine Do.region [4,5] true ?_
    simp [go_sem]
    repeat (refine And.intro (by first | omega | (intros; omega) | (intros; exact And.intro (by assumption) (by omega))) ?_)
    apply_assumption -exfalso -symm
    refine Do.ret ?_
    simp [endQ, rets, ret1, go_sem]
    repeat (refine And.intro (by first | omega | (intros; omega) | (intros; exact And.intro (by assumption) (by omega))) ?_)
    exact TLe.refl _
end Go.Proofs.YtbhokdhkfodpfaaGreatDoor
/- The canonical floats of a list. No condition. -/
namespace Go.Proofs.YtbhokdhkfodpfaaGreatDoor
set_option linter.unusedVariables false
set_option linter.unusedSimpArgs false
set_option maxHeartbeats 2000000
abbrev Flt.cs (x : Flt) : List Ce := [.i .i64 x.k, .b x.n, .i .i64 x.e, .w false (nat x.v)]
/-- The canonical floats. -/
def heldL (f p : Int) (l : List Fla) : List Flt := l.map fun x => (holdsP f p x.flt).1
theorem Floats_own {f p : Int} {l : List Fla} (hl : l.length < 1099511627776) (h : ∀ x ∈ l, x.m.length ≤ 4096) (hf : fmOk f p = true) (ho : ∀ x ∈ l, x.Ok) (hh : allHold f p l = true) : DoesO Tryz.prog Gv 60 [Fm f p, Rows l] 4 ((heldL f p l).map Flt.cs) [.c (.i .i64 0)] := by
  refine DoesO.of (nt := 48) Tryz.func60 rfl rfl rfl (by simp) rfl (by simp) ?_
  simp only [argTm, PV.ext, Ce.ext, exts]
  refine Do.seqk fun _ k1_ => ?_
  refine Do.region [1,2] true ?_
  simp [go_sem]
  apply k1_; clear k1_
  refine Do.seqk fun _ k2_ => ?_
  refine Do.seqk fun _ k3_ => ?_
  refine Do.region [1,2,14,15,16] true ?_
  simp [go_sem]
  repeat (refine And.intro (by first | omega | (intros; omega) | grind) ?_)
  apply k3_; clear k3_
  refine Do.block ?_
  refine Do.loopF [1,2,14,15,16] (fun (i : Nat) => [(16, .int .i64 i)]) (fun (i : Nat) => []) (fun (i : Nat) => i ≤ l.length) (fun (i : Nat) => l.length - i) (0) (fun _ => by first | (simp [go_sem, mixS]; done) | (simp [go_sem, mixS]; rfl)) (St.le_of (by first | rfl | simp [keep]) (by first | rfl | simp [keep])) (Nat.zero_le _) ?_
  intro i hi
  refine Do.seqk fun _ k4_ => ?_
  refine Do.region [1,2,14,15,16,17] true ?_
  simp [go_sem]
  apply k4_; clear k4_
  refine Do.seqk fun _ k5_ => ?_
  refine Do.cond [1,2,14,15,16] rfl (fun h2 => ?_) (fun h2 => ?_) <;> simp [go_sem] at h2 ⊢
  · obtain ⟨x, hx⟩ : ∃ x, l[i]? = some x := ⟨_, List.getElem?_eq_getElem h2⟩
    have hxm : x.m.length ≤ 4096 := h x (List.mem_of_getElem? hx)
    refine Do.skip ?_
    simp [go_sem]
    apply k5_; clear k5_
    refine Do.seqk fun _ k6_ => ?_
    refine Do.block ?_
    refine Do.seqk fun _ k7_ => ?_
    refine Do.region [1,2,7,14,15,16] true ?_
    simp [go_sem, hx]
    repeat (refine And.intro (by first | omega | (intros; omega) | grind) ?_)
    apply k7_; clear k7_
    refine Do.seqk fun _ k8_ => ?_
    refine Do.region [1,2,14,15,16,21] true ?_
    simp [go_sem, hx]
    repeat (refine And.intro (by first | omega | (intros; omega) | grind) ?_)
    refine DoL.call true 402 rfl rfl rfl rfl (by first | exact trivial | omega | (simp; done) | (simp; omega)) (large_does (m := x.m) (by omega)) rfl (by first | exact .inl rfl | exact .inr rfl) rfl ?_
    simp [go_sem, hx]
    apply k8_; clear k8_
    refine Do.cond [1,2,14,15,16] rfl (fun h3 => ?_) (fun h3 => ?_) <;> simp [go_sem, hx] at h3 ⊢
    · omega
    · refine Do.skip ?_
      simp [go_sem]
      apply k6_; clear k6_
      refine Do.region [1,2,14,15,16] true ?_
      simp [go_sem, hx]
      repeat (refine And.intro (by first | omega | (intros; omega) | grind) ?_)
      refine ⟨i + 1, St.le_of (by first | rfl | simp [keep]) (by first | rfl | simp [keep]), by omega, by first | (simp; done) | (simp; omega)⟩
  · refine Do.exit ?_
    simp [go_sem]
    apply k2_; clear k2_
    refine Do.seqk fun _ k9_ => ?_
    refine Do.seqk fun _ k10_ => ?_
    refine Do.region [1,2,8] true ?_
    simp [go_sem]
    repeat (refine And.intro (by first | omega | (intros; omega) | grind) ?_)
    refine DoL.call true 702 rfl rfl rfl rfl (by first | exact trivial | omega | (simp; done) | (simp; omega)) (Check_does) rfl (by first | exact .inl rfl | exact .inr rfl) rfl ?_
    simp [go_sem]
    rw [hf]
    apply k10_; clear k10_
    refine Do.seqk fun _ k11_ => ?_
    refine Do.region [1,2,8,26] true ?_
    simp [go_sem]
    apply k11_; clear k11_
    refine Do.cond [1,2,8] rfl (fun h3 => ?_) (fun h3 => ?_) <;> simp [go_sem] at h3 ⊢
    refine Do.skip ?_
    simp [go_sem]
    apply k9_; clear k9_
    refine Do.seqk fun _ k12_ => ?_
    refine Do.region [1,2,9] true ?_
    simp [go_sem]
    apply k12_; clear k12_
    refine Do.seqk fun _ k13_ => ?_
    refine Do.seqk fun _ k14_ => ?_
    refine Do.region [2,9,28,29,30] true ?_
    simp [go_sem]
    repeat (refine And.intro (by first | omega | (intros; omega) | grind) ?_)
    apply k14_; clear k14_
    refine Do.block ?_
    refine Do.own 9 1000 4 rfl rfl (by decide) ?_
    simp [go_sem]
    refine Do.loopF [2,9,28,29,30] (fun (i : Nat) => [(9, .v (.c (.r 1000 i))), (30, .int .i64 i)]) (fun (i : Nat) => [(1000, .sr 4 (((heldL f p l).map Flt.cs).take i))]) (fun (i : Nat) => i ≤ l.length) (fun (i : Nat) => l.length - i) (0) (fun _ => by first | (simp [go_sem, mixS]; done) | (simp [go_sem, mixS]; rfl)) (St.le_of (by first | rfl | simp [keep]) (by first | rfl | simp [keep])) (Nat.zero_le _) ?_
    intro i hi
    refine Do.seqk fun _ k15_ => ?_
    refine Do.region [2,9,28,29,30,31] true ?_
    simp [go_sem]
    apply k15_; clear k15_
    refine Do.seqk fun _ k16_ => ?_
    refine Do.cond [2,9,28,29,30] rfl (fun h2 => ?_) (fun h2 => ?_) <;> simp [go_sem] at h2 ⊢
    · obtain ⟨x, hx⟩ : ∃ x, l[i]? = some x := ⟨_, List.getElem?_eq_getElem h2⟩
      have hxo := ho x (List.mem_of_getElem? hx)
      have hb : (holdsP f p x.flt).2 = true := by simpa using List.all_eq_true.1 hh x (List.mem_of_getElem? hx)
      have hdo : Does Tryz.prog Gv 95 [Fm f p, Fl x.k x.n x.e x.m] (.t [(holdsP f p x.flt).1.pv, .c (.b true)]) := hb ▸ holds_does hf hxo.sh hxo.ws hxo.e
      have hll : (heldL f p l).length = l.length := by simp [heldL]
      have hmin : min i l.length = i := by omega
      have hgx : (heldL f p l)[i]? = some (holdsP f p x.flt).1 := by simp [heldL, hx]
      refine Do.skip ?_
      simp [go_sem]
      apply k16_; clear k16_
      refine Do.seqk fun _ k17_ => ?_
      refine Do.block ?_
      refine Do.seqk fun _ k18_ => ?_
      refine Do.region [2,9,11,28,29,30] true ?_
      simp [go_sem, hx, hll, hmin]
      repeat (refine And.intro (by first | omega | (intros; omega) | grind) ?_)
      apply k18_; clear k18_
      refine Do.seqk fun _ k19_ => ?_
      refine Do.region [2,9,12,13,28,29,30] true ?_
      simp [go_sem, hx, hll, hmin]
      repeat (refine And.intro (by first | omega | (intros; omega) | grind) ?_)
      refine DoL.call true 1403 rfl rfl rfl rfl (by first | exact trivial | omega | (simp; done) | (simp; omega)) (hdo) rfl (by first | exact .inl rfl | exact .inr rfl) rfl ?_
      simp [go_sem, hx, hll, hmin]
      repeat (refine And.intro (by first | omega | (intros; omega) | grind) ?_)
      apply k19_; clear k19_
      refine Do.seqk fun _ k20_ => ?_
      refine Do.seqk fun _ k21_ => ?_
      refine Do.region [2,9,12,28,29,30,41] true ?_
      simp [go_sem, hx, hll, hmin]
      repeat (refine And.intro (by first | omega | (intros; omega) | grind) ?_)
      apply k21_; clear k21_
      refine Do.cond [2,9,12,28,29,30] rfl (fun h3 => ?_) (fun h3 => ?_) <;> simp [go_sem, hx, hll, hmin] at h3 ⊢
      refine Do.skip ?_
      simp [go_sem]
      apply k20_; clear k20_
      refine Do.region [2,9,28,29,30] true ?_
      simp [go_sem, hx, hll, hmin]
      repeat (refine And.intro (by first | omega | (intros; omega) | grind) ?_)
      apply k17_; clear k17_
      refine Do.region [2,9,28,29,30] true ?_
      simp [go_sem, hx, hll, hmin]
      repeat (refine And.intro (by first | omega | (intros; omega) | grind) ?_)
      refine ⟨i + 1, St.le_of rfl (by simp [keep, List.take_add_one, hgx]), by omega, by simp; omega⟩
    · refine Do.exit ?_
      simp [go_sem]
      apply k13_; clear k13_
      refine Do.seqk fun _ k22_ => ?_
      refine Do.region [4,5] true ?_
      simp [go_sem]
      apply k22_; clear k22_
      refine Do.ret ?_
      simp [endO, rets, ret1, go_sem]
      repeat (refine And.intro (by first | omega | (intros; omega) | grind) ?_)
      have hll : (heldL f p l).length = l.length := by simp [heldL]
      have e : i = l.length := by omega
      refine ⟨by rw [hll]; exact e, ?_⟩
      rw [List.take_of_length_le (by simp [hll]; omega)]
theorem Floats_bad {f p : Int} {l : List Fla} (hl : l.length < 1099511627776) (h : ∀ x ∈ l, x.m.length ≤ 4096) (hf : fmOk f p = true) (ho : ∀ x ∈ l, x.Ok) (hh : allHold f p l = false) : Does Tryz.prog Gv 60 [Fm f p, Rows l] (.t [.c .z, .c (.i .i64 151)]) := by
  refine Does.of (nt := 48) Tryz.func60 rfl rfl rfl (by simp) ?_
  simp only [argTm, PV.ext, Ce.ext]
  refine Do.seqk fun _ k1_ => ?_
  refine Do.region [1,2] true ?_
  simp [go_sem]
  apply k1_; clear k1_
  refine Do.seqk fun _ k2_ => ?_
  refine Do.seqk fun _ k3_ => ?_
  refine Do.region [1,2,14,15,16] true ?_
  simp [go_sem]
  repeat (refine And.intro (by first | omega | (intros; omega) | grind) ?_)
  apply k3_; clear k3_
  refine Do.block ?_
  refine Do.loopF [1,2,14,15,16] (fun (i : Nat) => [(16, .int .i64 i)]) (fun (i : Nat) => []) (fun (i : Nat) => i ≤ l.length) (fun (i : Nat) => l.length - i) (0) (fun _ => by first | (simp [go_sem, mixS]; done) | (simp [go_sem, mixS]; rfl)) (St.le_of (by first | rfl | simp [keep]) (by first | rfl | simp [keep])) (Nat.zero_le _) ?_
  intro i hi
  refine Do.seqk fun _ k4_ => ?_
  refine Do.region [1,2,14,15,16,17] true ?_
  simp [go_sem]
  apply k4_; clear k4_
  refine Do.seqk fun _ k5_ => ?_
  refine Do.cond [1,2,14,15,16] rfl (fun h2 => ?_) (fun h2 => ?_) <;> simp [go_sem] at h2 ⊢
  · obtain ⟨x, hx⟩ : ∃ x, l[i]? = some x := ⟨_, List.getElem?_eq_getElem h2⟩
    have hxm : x.m.length ≤ 4096 := h x (List.mem_of_getElem? hx)
    refine Do.skip ?_
    simp [go_sem]
    apply k5_; clear k5_
    refine Do.seqk fun _ k6_ => ?_
    refine Do.block ?_
    refine Do.seqk fun _ k7_ => ?_
    refine Do.region [1,2,7,14,15,16] true ?_
    simp [go_sem, hx]
    repeat (refine And.intro (by first | omega | (intros; omega) | grind) ?_)
    apply k7_; clear k7_
    refine Do.seqk fun _ k8_ => ?_
    refine Do.region [1,2,14,15,16,21] true ?_
    simp [go_sem, hx]
    repeat (refine And.intro (by first | omega | (intros; omega) | grind) ?_)
    refine DoL.call true 402 rfl rfl rfl rfl (by first | exact trivial | omega | (simp; done) | (simp; omega)) (large_does (m := x.m) (by omega)) rfl (by first | exact .inl rfl | exact .inr rfl) rfl ?_
    simp [go_sem, hx]
    apply k8_; clear k8_
    refine Do.cond [1,2,14,15,16] rfl (fun h3 => ?_) (fun h3 => ?_) <;> simp [go_sem, hx] at h3 ⊢
    · omega
    · refine Do.skip ?_
      simp [go_sem]
      apply k6_; clear k6_
      refine Do.region [1,2,14,15,16] true ?_
      simp [go_sem, hx]
      repeat (refine And.intro (by first | omega | (intros; omega) | grind) ?_)
      refine ⟨i + 1, St.le_of (by first | rfl | simp [keep]) (by first | rfl | simp [keep]), by omega, by first | (simp; done) | (simp; omega)⟩
  · refine Do.exit ?_
    simp [go_sem]
    apply k2_; clear k2_
    refine Do.seqk fun _ k9_ => ?_
    refine Do.seqk fun _ k10_ => ?_
    refine Do.region [1,2,8] true ?_
    simp [go_sem]
    repeat (refine And.intro (by first | omega | (intros; omega) | grind) ?_)
    refine DoL.call true 702 rfl rfl rfl rfl (by first | exact trivial | omega | (simp; done) | (simp; omega)) (Check_does) rfl (by first | exact .inl rfl | exact .inr rfl) rfl ?_
    simp [go_sem]
    rw [hf]
    apply k10_; clear k10_
    refine Do.seqk fun _ k11_ => ?_
    refine Do.region [1,2,8,26] true ?_
    simp [go_sem]
    apply k11_; clear k11_
    refine Do.cond [1,2,8] rfl (fun h3 => ?_) (fun h3 => ?_) <;> simp [go_sem] at h3 ⊢
    refine Do.skip ?_
    simp [go_sem]
    apply k9_; clear k9_
    refine Do.seqk fun _ k12_ => ?_
    refine Do.region [1,2,9] true ?_
    simp [go_sem]
    apply k12_; clear k12_
    refine Do.seqk fun _ k13_ => ?_
    refine Do.seqk fun _ k14_ => ?_
    refine Do.region [2,9,28,29,30] true ?_
    simp [go_sem]
    repeat (refine And.intro (by first | omega | (intros; omega) | grind) ?_)
    apply k14_; clear k14_
    refine Do.block ?_
    refine Do.own 9 1000 4 rfl rfl (by decide) ?_
    simp [go_sem]
    refine Do.loopF [2,9,28,29,30] (fun (i : Nat) => [(9, .v (.c (.r 1000 i))), (30, .int .i64 i)]) (fun (i : Nat) => [(1000, .sr 4 (((heldL f p l).map Flt.cs).take i))]) (fun (i : Nat) => i ≤ l.length ∧ ∀ j, j < i → ∀ x, l[j]? = some x → (holdsP f p x.flt).2 = true) (fun (i : Nat) => l.length - i) (0) (fun _ => by first | (simp [go_sem, mixS]; done) | (simp [go_sem, mixS]; rfl)) (St.le_of (by first | rfl | simp [keep]) (by first | rfl | simp [keep])) (⟨Nat.zero_le _, fun j hj => absurd hj (Nat.not_lt_zero j)⟩) ?_
    rintro i ⟨hi, hz⟩
    refine Do.seqk fun _ k15_ => ?_
    refine Do.region [2,9,28,29,30,31] true ?_
    simp [go_sem]
    apply k15_; clear k15_
    refine Do.seqk fun _ k16_ => ?_
    refine Do.cond [2,9,28,29,30] rfl (fun h2 => ?_) (fun h2 => ?_) <;> simp [go_sem] at h2 ⊢
    · obtain ⟨x, hx⟩ : ∃ x, l[i]? = some x := ⟨_, List.getElem?_eq_getElem h2⟩
      have hxo := ho x (List.mem_of_getElem? hx)
      have hdo : Does Tryz.prog Gv 95 [Fm f p, Fl x.k x.n x.e x.m] (.t [(holdsP f p x.flt).1.pv, .c (.b (holdsP f p x.flt).2)]) := holds_does hf hxo.sh hxo.ws hxo.e
      have hll : (heldL f p l).length = l.length := by simp [heldL]
      have hmin : min i l.length = i := by omega
      have hgx : (heldL f p l)[i]? = some (holdsP f p x.flt).1 := by simp [heldL, hx]
      refine Do.skip ?_
      simp [go_sem]
      apply k16_; clear k16_
      refine Do.seqk fun _ k17_ => ?_
      refine Do.block ?_
      refine Do.seqk fun _ k18_ => ?_
      refine Do.region [2,9,11,28,29,30] true ?_
      simp [go_sem, hx, hll, hmin]
      repeat (refine And.intro (by first | omega | (intros; omega) | grind) ?_)
      apply k18_; clear k18_
      refine Do.seqk fun _ k19_ => ?_
      refine Do.region [2,9,12,13,28,29,30] true ?_
      simp [go_sem, hx, hll, hmin]
      repeat (refine And.intro (by first | omega | (intros; omega) | grind) ?_)
      refine DoL.call true 1403 rfl rfl rfl rfl (by first | exact trivial | omega | (simp; done) | (simp; omega)) (hdo) rfl (by first | exact .inl rfl | exact .inr rfl) rfl ?_
      simp [go_sem, hx, hll, hmin]
      repeat (refine And.intro (by first | omega | (intros; omega) | grind) ?_)
      apply k19_; clear k19_
      refine Do.seqk fun _ k20_ => ?_
      refine Do.seqk fun _ k21_ => ?_
      refine Do.region [2,9,12,28,29,30,41] true ?_
      simp [go_sem, hx, hll, hmin]
      repeat (refine And.intro (by first | omega | (intros; omega) | grind) ?_)
      apply k21_; clear k21_
      refine Do.cond [2,9,12,28,29,30] rfl (fun h3 => ?_) (fun h3 => ?_) <;> simp [go_sem, hx, hll, hmin] at h3 ⊢
      · refine Do.seqk fun _ k22_ => ?_
        refine Do.region [4,5] true ?_
        simp [go_sem, hx, hll, hmin]
        apply k22_; clear k22_
        refine Do.ret ?_
        simp [endQ, rets, ret1, go_sem, hx, hll, hmin]
        repeat (refine And.intro (by first | omega | (intros; omega) | grind) ?_)
        exact TLe.refl _
      · refine Do.skip ?_
        simp [go_sem]
        apply k20_; clear k20_
        refine Do.region [2,9,28,29,30] true ?_
        simp [go_sem, hx, hll, hmin]
        repeat (refine And.intro (by first | omega | (intros; omega) | grind) ?_)
        apply k17_; clear k17_
        refine Do.region [2,9,28,29,30] true ?_
        simp [go_sem, hx, hll, hmin]
        repeat (refine And.intro (by first | omega | (intros; omega) | grind) ?_)
        refine ⟨i + 1, St.le_of rfl (by simp [keep, List.take_add_one, hgx]), ⟨by omega, ?_⟩, by simp; omega⟩
        intro j hj y hy
        by_cases e : j = i
        · subst e; rw [hx] at hy; injection hy with hy; subst hy; exact h3
        · exact hz j (by omega) y hy
    · exfalso
      have e : i = l.length := by omega
      have : allHold f p l = true := by
        rw [allHold, List.all_eq_true]
        intro x hx
        obtain ⟨j, hj, e2⟩ := List.getElem_of_mem hx
        exact hz j (by omega) x (by rw [List.getElem?_eq_getElem hj, e2])
      rw [hh] at this; cases this
end Go.Proofs.YtbhokdhkfodpfaaGreatDoor
