/- The product of two floats, by the program and by the reference. No condition. Sums of products, by the program. No condition. Sums of products, by the reference. No condition. The program awake: products. No condition. The law ProductMuls. No condition. The law ProductFused. No condition. The law ProductDots. No condition. The parts of a product. No condition. The law ProductParts. No condition. A part of a row of the call's own, given to a call; functions whose result is a row of words of the caller's. No condition. Division by the schoolbook: what its loops hold. No condition. -/
import Derived.Test.YthpkhmbjmnhmoaaGreatDoorMk
import Derived.Test.YthpkhmbjmnhmoaaGreatDoorMh
import Derived.Test.YthpkhmbjmnhmoaaGreatDoorMi
/- The product of two floats, by the program and by the reference. No condition. -/
namespace Go.Proofs.YthpkhmbjmnhmoaaGreatDoor
set_option linter.unusedVariables false
set_option linter.unusedSimpArgs false
set_option maxHeartbeats 4000000
set_option maxRecDepth 10000
/-- What Mul answers. -/
def mulP (f p r : Int) (x y : Fla) : Flt × Int × Int :=
  if argsE f p r false [x, y] = 0 then ((roundT (timesP (holdsP f p x.flt).1 (holdsP f p y.flt).1) f p r).1, (roundT (timesP (holdsP f p x.flt).1 (holdsP f p y.flt).1) f p r).2, 0) else (⟨0, false, 0, 0⟩, 0, argsE f p r false [x, y])
theorem held_cf {f p : Int} {x : Flt} (h : (holdsP f p x).2 = true) : Cf (holdsP f p x).1 := by
  rw [← (held_rcanon h).1]
  exact Cf.of (held_rcanon h).2
/-- Bounds of a float that is held. -/
theorem held_small {f p : Int} (hf : fmOk f p = true) {x : Flt} (h : (holdsP f p x).2 = true) : -100000 ≤ (holdsP f p x).1.e ∧ (holdsP f p x).1.e ≤ 100000 ∧ bl (holdsP f p x).1.v ≤ 256 ∧ ((holdsP f p x).1.k = 1 → (holdsP f p x).1.e + bl (holdsP f p x).1.v ≤ 16384) := by
  obtain ⟨b1, b2, b3, b4⟩ := fmOk_spec hf
  obtain ⟨b5, b6⟩ := gOfE_le b1 b2
  have hc := held_cf h
  unfold holdsP at h hc ⊢
  split at h
  · rename_i hh
    rw [if_pos hh] at hc ⊢
    have hk : (canon x).1.k ≠ 1 := by
      rcases hh with hh | hh
      · rw [h] at hh; cases hh
      · exact hh
    have hfx := hc.fix
    unfold rcanon at hfx
    rw [if_neg hk] at hfx
    have he : (canon x).1.e = 0 := by rw [← hfx]
    have hv : (canon x).1.v = 0 := by rw [← hfx]
    rw [he, hv, bl_zero]
    exact ⟨by omega, by omega, by omega, fun h => absurd h hk⟩
  · rename_i hh
    rw [if_neg hh] at hc ⊢
    simp only [Bool.and_eq_true, decide_eq_true_eq] at h
    simp only []
    simp only [not_or, Decidable.not_not] at hh
    have := bl_pos (show 0 < (canon x).1.v by have := hc.pos hh.2; simp only [] at this; omega)
    omega
theorem timesP_ok {x y : Flt} (hx : -100000 ≤ x.e ∧ x.e ≤ 100000 ∧ bl x.v ≤ 256) (hy : -100000 ≤ y.e ∧ y.e ≤ 100000 ∧ bl y.v ≤ 256) : (timesP x y).2.2.Ok ∧ -200000 ≤ (timesP x y).2.2.e ∧ (timesP x y).2.2.e + bl (timesP x y).2.2.v ≤ 300000 := by
  have hm := bl_mul_le x.v y.v
  have key : -200000 ≤ (timesP x y).2.2.e ∧ (timesP x y).2.2.e + bl (timesP x y).2.2.v ≤ 300000 := by
    unfold timesP
    split
    · simp [bl_zero]
    · split
      · simp [bl_zero]
      · split
        · simp only []; omega
        · simp [bl_zero]
  exact ⟨⟨by omega, by omega⟩, key⟩
theorem PMul_does {f p r : Int} {x y : Fla} (hx : x.Ok) (hy : y.Ok) : Does Tryz.prog Gv 12 [Fm f p, .c (.i .i64 r), Fl x.k x.n x.e x.m, Fl y.k y.n y.e y.m] (Res (mulP f p r x y)) := by
  generalize hz : mulP f p r x y = z
  unfold mulP at hz
  have hl : [x, y].length < 1099511627776 := by simp
  have ho : ∀ u ∈ [x, y], u.Ok := by simp [hx, hy]
  by_cases he : argsE f p r false [x, y] = 0
  · rw [if_pos he] at hz
    have hA : DoesO Tryz.prog Gv 39 [Fm f p, .c (.i .i64 r), .c (.b false), .s false [x.cs, y.cs]] 4 [(holdsP f p x.flt).1.cs, (holdsP f p y.flt).1.cs] [.c (.i .i64 0)] := Args_own hl ho he
    obtain ⟨h1, h2, h3, h4, h5, h6⟩ := argsE_zero he
    have sx := held_small h5 (x := x.flt) (by simpa using List.all_eq_true.1 h6 x (by simp))
    have sy := held_small h5 (x := y.flt) (by simpa using List.all_eq_true.1 h6 y (by simp))
    generalize (holdsP f p x.flt).1 = u at *
    generalize (holdsP f p y.flt).1 = v at *
    have hT := @times_does Gv u v (by have := nat_len_bl u.v; omega) (by have := nat_len_bl v.v; omega) (by omega) (by omega)
    have hok := timesP_ok (x := u) (y := v) ⟨sx.1, sx.2.1, sx.2.2.1⟩ ⟨sy.1, sy.2.1, sy.2.2.1⟩
    have hR := @round_does f p r h5 h2 h3 (timesP u v) (fun _ => hok.1)
    generalize timesP u v = t at *
    refine Does.of (nt := 43) Tryz.func12 rfl rfl rfl (by simp) ?_
    simp only [argTm, PV.ext, Ce.ext]
    refine Do.seqk fun _ k1_ => ?_
    refine Do.region [1,4,6,7,8] true ?_
    simp [go_sem]
    apply k1_; clear k1_
    refine Do.seqk fun _ k2_ => ?_
    refine Do.region [1,4,8,11,12] true ?_
    simp [go_sem]
    repeat (refine And.intro (by first | omega | (intros; omega) | (intros; exact And.intro (by assumption) (by omega)) | grind) ?_)
    refine DoL.sealS true 105 104 rfl ?_
    simp [go_sem]
    refine DoL.callO true 106 3000 rfl rfl rfl rfl (by first | exact trivial | omega | (simp; done) | (simp; omega)) (hA) rfl rfl rfl ?_
    simp [go_sem]
    apply k2_; clear k2_
    refine Do.seqk fun _ k3_ => ?_
    refine Do.seqk fun _ k4_ => ?_
    refine Do.region [1,4,8,11,12,25] true ?_
    simp [go_sem]
    apply k4_; clear k4_
    refine Do.cond [1,4,8,11,12] rfl (fun h => ?_) (fun h => ?_) <;> simp [go_sem] at h ⊢
    refine Do.skip ?_
    simp [go_sem]
    apply k3_; clear k3_
    refine Do.seqk fun _ k5_ => ?_
    refine Do.sealS 3000 rfl ?_
    simp [go_sem]
    refine Do.draw [8,13,14] true (by kernel_rfl) ?_
    simp [go_sem]
    repeat (refine And.intro (by first | omega | (intros; omega) | (intros; exact And.intro (by assumption) (by omega)) | kernel_rfl | grind) ?_)
    refine DoLD.call true 407 rfl rfl rfl rfl (by first | exact trivial | omega | (simp; done) | (simp; omega)) (hT) rfl (by first | exact .inl rfl | exact .inr rfl) rfl ?_
    simp [go_sem]
    repeat (refine And.intro (by first | omega | (intros; omega) | (intros; exact And.intro (by assumption) (by omega)) | kernel_rfl | grind) ?_)
    refine DoLD.call true 410 rfl rfl rfl rfl (by first | exact trivial | omega | (simp; done) | (simp; omega)) (hR) rfl (by first | exact .inl rfl | exact .inr rfl) rfl ?_
    simp [go_sem]
    repeat (refine And.intro (by first | omega | (intros; omega) | (intros; exact And.intro (by assumption) (by omega)) | kernel_rfl | grind) ?_)
    try (refine And.intro (by kernel_rfl) ?_)
    apply k5_; clear k5_
    refine Do.seqk fun _ k6_ => ?_
    refine Do.region [8,9,10] true ?_
    simp [go_sem]
    repeat (refine And.intro (by first | omega | (intros; omega) | (intros; exact And.intro (by assumption) (by omega)) | grind) ?_)
    apply k6_; clear k6_
    refine Do.ret ?_
    simp [endQ, rets, ret1, go_sem]
    repeat (refine And.intro (by first | omega | (intros; omega) | (intros; exact And.intro (by assumption) (by omega)) | grind) ?_)
    subst hz
    exact TLe.refl _
  · rw [if_neg he] at hz
    have hA : Does Tryz.prog Gv 39 [Fm f p, .c (.i .i64 r), .c (.b false), .s false [x.cs, y.cs]] (.t [.c .z, .c (.i .i64 (argsE f p r false [x, y]))]) := Args_err hl ho he
    refine Does.of (nt := 43) Tryz.func12 rfl rfl rfl (by simp) ?_
    simp only [argTm, PV.ext, Ce.ext]
    refine Do.seqk fun _ k1_ => ?_
    refine Do.region [1,4,6,7,8] true ?_
    simp [go_sem]
    apply k1_; clear k1_
    refine Do.seqk fun _ k2_ => ?_
    refine Do.region [1,4,8,11,12] true ?_
    simp [go_sem]
    repeat (refine And.intro (by first | omega | (intros; omega) | (intros; exact And.intro (by assumption) (by omega)) | grind) ?_)
    refine DoL.sealS true 105 104 rfl ?_
    simp [go_sem]
    refine DoL.call true 106 rfl rfl rfl rfl (by first | exact trivial | omega | (simp; done) | (simp; omega)) (hA) rfl (by first | exact .inl rfl | exact .inr rfl) rfl ?_
    simp [go_sem]
    apply k2_; clear k2_
    refine Do.seqk fun _ k3_ => ?_
    refine Do.seqk fun _ k4_ => ?_
    refine Do.region [1,4,8,11,12,25] true ?_
    simp [go_sem]
    apply k4_; clear k4_
    refine Do.cond [1,4,8,11,12] rfl (fun h => ?_) (fun h => ?_) <;> simp [go_sem] at h ⊢
    · refine Do.seqk fun _ k5_ => ?_
      refine Do.region [8,9,10] true ?_
      simp [go_sem]
      repeat (refine And.intro (by first | omega | (intros; omega) | (intros; exact And.intro (by assumption) (by omega)) | grind) ?_)
      apply k5_; clear k5_
      refine Do.ret ?_
      simp [endQ, rets, ret1, go_sem]
      repeat (refine And.intro (by first | omega | (intros; omega) | (intros; exact And.intro (by assumption) (by omega)) | grind) ?_)
      subst hz
      exact ret_res (ret_z rfl) rfl
    · exact absurd h he
end Go.Proofs.YthpkhmbjmnhmoaaGreatDoor
/- Sums of products, by the program. No condition. -/
namespace Go.Proofs.YthpkhmbjmnhmoaaGreatDoor
set_option linter.unusedVariables false
set_option linter.unusedSimpArgs false
set_option maxHeartbeats 4000000
set_option maxRecDepth 10000
theorem dot_bound {ts : List (Bool × Int × Nu)} (h : ∀ t ∈ ts, -200000 ≤ t.2.2.e ∧ t.2.2.e + bl t.2.2.v ≤ 300000) : ∀ i, -4194304 ≤ (dotG (ts.take i)).sum.e ∧ (dotG (ts.take i)).sum.e + bl (dotG (ts.take i)).sum.v ≤ 300000 + min i ts.length := by
  intro i
  induction i with
  | zero => simp [dotG, Ga.zero, bl_zero]
  | succ i ih =>
    cases hx : ts[i]? with
    | none =>
      have hl : ts.length ≤ i := List.getElem?_eq_none_iff.1 hx
      rw [List.take_of_length_le (by omega)] at ih ⊢
      omega
    | some t =>
      have hi : i < ts.length := (List.getElem?_eq_some_iff.1 hx).1
      rw [dotG_take hx]
      generalize dotG (ts.take i) = g at *
      have hk := h t (List.mem_of_getElem? hx)
      unfold dotStep Ga.put
      split
      · simp only []; omega
      · split
        · simp only []; omega
        · split
          · have := Nu.plus_ok (a := g.sum) (b := t.2.2) (c := 300000 + min i ts.length) ih (by omega)
            simp only []; omega
          · simp only []; omega
/-- The error of a list of products. -/
def dotE (f p r : Int) (xs ys : List Fla) (z : Fla) : Int := argsE f p r ((xs.length : Int) != ys.length || decide ((1000 : Int) < xs.length)) (xs ++ ys ++ [z])
/-- What Dot answers. -/
def dotA (f p r : Int) (xs ys : List Fla) (z : Fla) : Flt × Int × Int :=
  if dotE f p r xs ys z = 0 then ((dotP f p r (tsOf ((heldL f p xs).zip (heldL f p ys))) (holdsP f p z.flt).1).1, (dotP f p r (tsOf ((heldL f p xs).zip (heldL f p ys))) (holdsP f p z.flt).1).2, 0) else (⟨0, false, 0, 0⟩, 0, dotE f p r xs ys z)
theorem PDot_does {f p r : Int} {xs ys : List Fla} {z : Fla} (hxl : xs.length < 1000000) (hyl : ys.length < 1000000) (hx : ∀ x ∈ xs, x.Ok) (hy : ∀ x ∈ ys, x.Ok) (hz : z.Ok) : Does Tryz.prog Gv 20 [Fm f p, .c (.i .i64 r), Rows xs, Rows ys, Fl z.k z.n z.e z.m] (Res (dotA f p r xs ys z)) := by
  generalize hw : dotA f p r xs ys z = w
  unfold dotA at hw
  have hl : (xs ++ ys ++ [z]).length < 1099511627776 := by simp; omega
  have ho : ∀ u ∈ xs ++ ys ++ [z], u.Ok := by
    intro u hu
    simp only [List.mem_append, List.mem_singleton] at hu
    rcases hu with (hu | hu) | rfl
    · exact hx u hu
    · exact hy u hu
    · exact hz
  by_cases he : dotE f p r xs ys z = 0
  · rw [if_pos he] at hw
    have hA := Args_own hl ho he
    obtain ⟨h1, h2, h3, h4, h5, h6⟩ := argsE_zero he
    rw [show heldL f p (xs ++ ys ++ [z]) = heldL f p xs ++ heldL f p ys ++ [(holdsP f p z.flt).1] by simp [heldL]] at hA
    rw [show Rows (xs ++ ys ++ [z]) = .s false (xs.map Fla.cs ++ (ys.map Fla.cs ++ [z.cs])) by simp [Rows]] at hA
    have hlen : xs.length = ys.length ∧ xs.length ≤ 1000 := by simp at h4; omega
    rw [h4] at hA
    have d1 : ¬ (1000 : Int) < ys.length := by omega
    have hux : (heldL f p xs).length = xs.length := by simp [heldL]
    have huy : (heldL f p ys).length = ys.length := by simp [heldL]
    have hall : ∀ x ∈ xs ++ ys ++ [z], (holdsP f p x.flt).2 = true := fun x hx => by simpa using List.all_eq_true.1 h6 x hx
    have sx : ∀ u ∈ heldL f p xs, -100000 ≤ u.e ∧ u.e ≤ 100000 ∧ bl u.v ≤ 256 := fun u hu => by
      obtain ⟨x, hx, rfl⟩ := List.mem_map.1 hu
      have := held_small h5 (hall x (by simp [hx]))
      exact ⟨this.1, this.2.1, this.2.2.1⟩
    have sy : ∀ u ∈ heldL f p ys, -100000 ≤ u.e ∧ u.e ≤ 100000 ∧ bl u.v ≤ 256 := fun u hu => by
      obtain ⟨x, hx, rfl⟩ := List.mem_map.1 hu
      have := held_small h5 (hall x (by simp [hx]))
      exact ⟨this.1, this.2.1, this.2.2.1⟩
    have sz := held_small h5 (hall z (by simp))
    generalize (holdsP f p z.flt).1 = c at *
    generalize heldL f p xs = as_ at *
    generalize heldL f p ys = bs at *
    have hts : ∀ t ∈ tsOf (as_.zip bs), -200000 ≤ t.2.2.e ∧ t.2.2.e + bl t.2.2.v ≤ 300000 := fun t ht => by
      obtain ⟨q, hq, rfl⟩ := List.mem_map.1 ht
      obtain ⟨q1, q2⟩ := q
      exact (timesP_ok (sx _ (List.of_mem_zip hq).1) (sy _ (List.of_mem_zip hq).2)).2
    have hbd := dot_bound hts
    have hget : ∀ (i : Nat) (a b : Flt), as_[i]? = some a → bs[i]? = some b → (tsOf (as_.zip bs))[i]? = some (timesP a b) := fun i a b h1 h2 => by
      have : (as_.zip bs)[i]? = some (a, b) := List.getElem?_zip_eq_some.2 ⟨h1, h2⟩
      rw [tsOf, List.getElem?_map, this]; rfl
    have htl : (tsOf (as_.zip bs)).length = ys.length := by simp [tsOf]; omega
    have hwz : dotP f p r (tsOf (as_.zip bs)) c = ((dotG (tsOf (as_.zip bs))).put c.k ⟨c.n, c.v, c.e⟩).float f p r := rfl
    rw [hwz] at hw
    generalize tsOf (as_.zip bs) = ts at *
    have hn : xs.length = ys.length := hlen.1
    have hrow1 : ∀ (i : Nat) (a : Flt), as_[i]? = some a → (as_.map Flt.cs ++ bs.map Flt.cs ++ [c.cs])[i]? = some a.cs := fun i a h => by
      have hi := (List.getElem?_eq_some_iff.1 h).1
      rw [List.append_assoc, List.getElem?_append_left (by simpa using hi)]; simp [h]
    have hrow2 : ∀ (i : Nat) (a : Flt), bs[i]? = some a → (as_.map Flt.cs ++ bs.map Flt.cs ++ [c.cs])[ys.length + i]? = some a.cs := fun i a h => by
      have hi := (List.getElem?_eq_some_iff.1 h).1
      rw [List.append_assoc, List.getElem?_append_right (by simp; omega), List.getElem?_append_left (by simp; omega)]
      simp only [List.length_map]
      rw [show ys.length + i - as_.length = i by omega]; simp [h]
    have hrow3 : (as_.map Flt.cs ++ bs.map Flt.cs ++ [c.cs])[ys.length + ys.length]? = some c.cs := by
      rw [List.getElem?_append_right (by simp; omega)]
      simp only [List.length_append, List.length_map]
      rw [show ys.length + ys.length - (as_.length + bs.length) = 0 by omega]; rfl
    have hrl : (as_.map Flt.cs ++ bs.map Flt.cs ++ [c.cs]).length = ys.length + ys.length + 1 := by simp; omega
    rw [show (as_ ++ bs ++ [c]).map Flt.cs = as_.map Flt.cs ++ bs.map Flt.cs ++ [c.cs] by simp] at hA
    generalize as_.map Flt.cs ++ bs.map Flt.cs ++ [c.cs] = rows at *
    refine Does.of (nt := 108) Tryz.func20 rfl rfl rfl (by simp) ?_
    simp only [argTm, PV.ext, Ce.ext]
    refine Do.seqk fun _ k1_ => ?_
    refine Do.region [1,2,3,5,9,10] true ?_
    simp [go_sem, hn, d1]
    apply k1_; clear k1_
    refine Do.seqk fun _ k2_ => ?_
    refine Do.draw [1,2,3,5,9,10,13] true (by kernel_rfl) ?_
    simp [go_sem, hn, d1]
    repeat (refine And.intro (by first | omega | (intros; omega) | (intros; exact And.intro (by assumption) (by omega)) | kernel_rfl | grind) ?_)
    try (refine And.intro (by kernel_rfl) ?_)
    apply k2_; clear k2_
    refine Do.seqk fun _ k3_ => ?_
    refine Do.region [1,2,5,9,10,14,15] true ?_
    simp [go_sem, hn, d1]
    repeat (refine And.intro (by first | omega | (intros; omega) | (intros; exact And.intro (by assumption) (by omega)) | grind) ?_)
    refine DoL.sealS true 213 100 rfl ?_
    simp [go_sem, hn, d1]
    refine DoL.callO true 214 3000 rfl rfl rfl rfl (by first | exact trivial | omega | (simp; done) | (simp; omega)) (hA) rfl rfl rfl ?_
    simp [go_sem, hn, d1]
    apply k3_; clear k3_
    refine Do.seqk fun _ k4_ => ?_
    refine Do.seqk fun _ k5_ => ?_
    refine Do.region [1,2,5,9,10,14,15,47] true ?_
    simp [go_sem, hn, d1]
    apply k5_; clear k5_
    refine Do.cond [1,2,5,9,10,14,15] rfl (fun h => ?_) (fun h => ?_) <;> simp [go_sem, hn, d1] at h ⊢
    refine Do.skip ?_
    simp [go_sem]
    apply k4_; clear k4_
    refine Do.seqk fun _ k6_ => ?_
    refine Do.region [1,2,5,9,10,14,16] true ?_
    simp [go_sem, hn, d1]
    apply k6_; clear k6_
    refine Do.seqk fun _ k7_ => ?_
    refine Do.seqk fun _ k8_ => ?_
    refine Do.sealS 3000 rfl ?_
    simp [go_sem]
    refine Do.weakB 501 Ga.zero.cs rfl (.cons (PLe.refl _) (.cons (ret_z rfl) (.cons (PLe.refl _) (.cons (PLe.refl _) (.cons (PLe.refl _) (.cons (PLe.refl _) (.cons (PLe.refl _) (.cons (PLe.refl _) (.cons (PLe.refl _) (.cons (PLe.refl _) .nil)))))))))) ?_
    simp [go_sem, put]
    refine Do.region [1,2,5,9,10,14,16,53,54] true ?_
    simp [go_sem, hn, d1]
    repeat (refine And.intro (by first | omega | (intros; omega) | (intros; exact And.intro (by assumption) (by omega)) | grind) ?_)
    apply k8_; clear k8_
    refine Do.block ?_
    refine Do.loopF [1,2,5,9,10,14,16,53,54] (fun (i : Nat) => [(54, .int .i64 i)]) (fun (i : Nat) => [(501, .box (dotG (ts.take i)).cs)]) (fun (i : Nat) => i ≤ ys.length) (fun (i : Nat) => ys.length - i) (0) (fun _ => by first | (simp [go_sem, mixS]; done) | (simp [go_sem, mixS]; rfl)) (St.le_of (by first | rfl | simp [keep]) (by first | rfl | simp [keep])) (Nat.zero_le _) ?_
    intro i hi
    refine Do.seqk fun _ k9_ => ?_
    refine Do.region [1,2,5,9,10,14,16,53,54,55] true ?_
    simp [go_sem, hn, d1]
    apply k9_; clear k9_
    refine Do.seqk fun _ k10_ => ?_
    refine Do.cond [1,2,5,9,10,14,16,53,54] rfl (fun h2 => ?_) (fun h2 => ?_) <;> simp [go_sem, hn, d1] at h2 ⊢
    · obtain ⟨a, ha⟩ : ∃ a, as_[i]? = some a := ⟨_, List.getElem?_eq_getElem (by omega)⟩
      obtain ⟨b, hb⟩ : ∃ b, bs[i]? = some b := ⟨_, List.getElem?_eq_getElem (by omega)⟩
      have r1 := hrow1 i a ha
      have r2 := hrow2 i b hb
      have rt := hget i a b ha hb
      have ka := sx a (List.mem_of_getElem? ha)
      have kb := sy b (List.mem_of_getElem? hb)
      have hT := @times_does Gv a b (by have := nat_len_bl a.v; omega) (by have := nat_len_bl b.v; omega) (by omega) (by omega)
      have ht2 := hts _ (List.mem_of_getElem? rt)
      have hst := dotG_take rt
      have hgb := hbd i
      generalize timesP a b = t at *
      generalize dotG (ts.take i) = g at *
      have hP := @Put_does ({ g with inv := g.inv || t.1 } : Ga) t.2.1 t.2.2 (fun _ => ⟨⟨hgb.1, by simp only []; omega⟩, ⟨by omega, by omega⟩⟩)
      rw [show ({ g with inv := g.inv || t.1 } : Ga).put t.2.1 t.2.2 = dotStep g t from rfl, ← hst] at hP
      refine Do.skip ?_
      simp [go_sem]
      apply k10_; clear k10_
      refine Do.seqk fun _ k11_ => ?_
      refine Do.block ?_
      refine Do.seqk fun _ k12_ => ?_
      refine Do.region [1,2,5,9,10,14,16,17,53,54] true ?_
      simp [go_sem, hn, r1, r2, hrl, show ((ys.length : Int) + i).toNat = ys.length + i by omega]
      apply k12_; clear k12_
      refine Do.seqk fun _ k13_ => ?_
      refine Do.draw [1,2,5,9,10,14,16,18,53,54] true (by kernel_rfl) ?_
      simp [go_sem, hn, r1, r2, hrl, show ((ys.length : Int) + i).toNat = ys.length + i by omega]
      repeat (refine And.intro (by first | omega | (intros; omega) | (intros; exact And.intro (by assumption) (by omega)) | kernel_rfl | grind) ?_)
      refine DoLD.call true 912 rfl rfl rfl rfl (by first | exact trivial | omega | (simp; done) | (simp; omega)) (hT) rfl (by first | exact .inl rfl | exact .inr rfl) rfl ?_
      simp [go_sem, hn, r1, r2, hrl, show ((ys.length : Int) + i).toNat = ys.length + i by omega]
      repeat (refine And.intro (by first | omega | (intros; omega) | (intros; exact And.intro (by assumption) (by omega)) | kernel_rfl | grind) ?_)
      try (refine And.intro (by kernel_rfl) ?_)
      apply k13_; clear k13_
      refine Do.seqk fun _ k14_ => ?_
      refine Do.region [1,2,5,9,10,14,16,18,53,54] true ?_
      simp [go_sem, hn, r1, r2, hrl, show ((ys.length : Int) + i).toNat = ys.length + i by omega]
      repeat (refine And.intro (by first | omega | (intros; omega) | (intros; exact And.intro (by assumption) (by omega)) | grind) ?_)
      apply k14_; clear k14_
      refine Do.region [1,2,5,9,10,14,16,53,54] true ?_
      simp [go_sem, hn, r1, r2, hrl, show ((ys.length : Int) + i).toNat = ys.length + i by omega]
      repeat (refine And.intro (by first | omega | (intros; omega) | (intros; exact And.intro (by assumption) (by omega)) | grind) ?_)
      refine DoL.callP2 true 1106 rfl rfl rfl rfl rfl rfl (by first | exact trivial | omega | (simp; done) | (simp; omega)) (hP) rfl rfl rfl ?_
      simp [go_sem, hn, r1, r2, hrl, show ((ys.length : Int) + i).toNat = ys.length + i by omega]
      apply k11_; clear k11_
      refine Do.region [1,2,5,9,10,14,16,53,54] true ?_
      simp [go_sem, hn, r1, r2, hrl, show ((ys.length : Int) + i).toNat = ys.length + i by omega]
      repeat (refine And.intro (by first | omega | (intros; omega) | (intros; exact And.intro (by assumption) (by omega)) | grind) ?_)
      refine ⟨i + 1, St.le_of (by first | rfl | simp [keep]) (by first | rfl | simp [keep]), by omega, by simp; omega⟩
    · obtain rfl : i = ys.length := by omega
      rw [List.take_of_length_le (by omega)]
      have hgb := hbd ts.length
      rw [List.take_length] at hgb
      generalize dotG ts = g at *
      have hP := @Put_does g c.k ⟨c.n, c.v, c.e⟩ (fun _ => ⟨⟨hgb.1, by omega⟩, ⟨by simp only []; omega, by simp only []; omega⟩⟩)
      have hgs : (g.put c.k ⟨c.n, c.v, c.e⟩).sum.Ok := by
        have h7 := @Nu.plus_ok g.sum ⟨c.n, c.v, c.e⟩ 400000 ⟨hgb.1, by omega⟩ ⟨by simp only []; omega, by simp only []; omega⟩
        unfold Ga.put
        split
        · exact ⟨hgb.1, by simp only []; omega⟩
        · split
          · exact ⟨hgb.1, by simp only []; omega⟩
          · split
            · exact ⟨h7.1, by simp only []; omega⟩
            · exact ⟨hgb.1, by simp only []; omega⟩
      have hF := @GFloat_does f p r h5 (by assumption) h3 _ hgs
      generalize g.put c.k ⟨c.n, c.v, c.e⟩ = g2 at *
      have hrow3b : ∀ h, rows[ys.length + ys.length]'h = c.cs := fun h => by
        rw [List.getElem?_eq_getElem h] at hrow3; exact Option.some.inj hrow3
      refine Do.exit ?_
      simp [go_sem]
      apply k7_; clear k7_
      refine Do.seqk fun _ k15_ => ?_
      refine Do.region [1,5,9,10,16] true ?_
      simp [go_sem, hn, hrow3, hrow3b, hrl, show ((ys.length : Int) + ys.length).toNat = ys.length + ys.length by omega]
      repeat (refine And.intro (by first | omega | (intros; omega) | (intros; exact And.intro (by assumption) (by omega)) | grind) ?_)
      apply k15_; clear k15_
      refine Do.seqk fun _ k16_ => ?_
      refine Do.draw [1,5,10,16] true (by kernel_rfl) ?_
      simp [go_sem, hn, hrow3, hrow3b, hrl, show ((ys.length : Int) + ys.length).toNat = ys.length + ys.length by omega]
      repeat (refine And.intro (by first | omega | (intros; omega) | (intros; exact And.intro (by assumption) (by omega)) | kernel_rfl | grind) ?_)
      refine DoLD.call true 1405 rfl rfl rfl rfl (by first | exact trivial | omega | (simp; done) | (simp; omega)) (Of_does) rfl (by first | exact .inl rfl | exact .inr rfl) rfl ?_
      simp [go_sem, hn, hrow3, hrow3b, hrl, show ((ys.length : Int) + ys.length).toNat = ys.length + ys.length by omega]
      refine DoLD.callP2 true 1406 rfl rfl rfl rfl rfl rfl (by first | exact trivial | omega | (simp; done) | (simp; omega)) (hP) rfl rfl rfl ?_
      simp [go_sem, hn, hrow3, hrow3b, hrl, show ((ys.length : Int) + ys.length).toNat = ys.length + ys.length by omega]
      try (refine And.intro (by kernel_rfl) ?_)
      apply k16_; clear k16_
      refine Do.seqk fun _ k17_ => ?_
      refine Do.region [10,19,20] true ?_
      simp [go_sem, hn, hrow3, hrow3b, hrl, show ((ys.length : Int) + ys.length).toNat = ys.length + ys.length by omega]
      repeat (refine And.intro (by first | omega | (intros; omega) | (intros; exact And.intro (by assumption) (by omega)) | grind) ?_)
      refine DoL.lend true 1503 100 501 rfl rfl rfl (by decide) ?_
      simp [go_sem, put, del]
      refine DoL.call true 1504 rfl rfl rfl rfl (by first | exact trivial | omega | (simp; done) | (simp; omega)) (hF) rfl (by first | exact .inl rfl | exact .inr rfl) rfl ?_
      simp [go_sem, hn, hrow3, hrow3b, hrl, show ((ys.length : Int) + ys.length).toNat = ys.length + ys.length by omega]
      repeat (refine And.intro (by first | omega | (intros; omega) | (intros; exact And.intro (by assumption) (by omega)) | grind) ?_)
      apply k17_; clear k17_
      refine Do.seqk fun _ k18_ => ?_
      refine Do.region [10,11,12] true ?_
      simp [go_sem, hn, hrow3, hrow3b, hrl, show ((ys.length : Int) + ys.length).toNat = ys.length + ys.length by omega]
      repeat (refine And.intro (by first | omega | (intros; omega) | (intros; exact And.intro (by assumption) (by omega)) | grind) ?_)
      apply k18_; clear k18_
      refine Do.ret ?_
      simp [endQ, rets, ret1, go_sem, hn, hrow3, hrow3b, hrl, show ((ys.length : Int) + ys.length).toNat = ys.length + ys.length by omega]
      repeat (refine And.intro (by first | omega | (intros; omega) | (intros; exact And.intro (by assumption) (by omega)) | grind) ?_)
      subst hw
      exact TLe.refl _
  · rw [if_neg he] at hw
    have hA := Args_err hl ho he
    rw [show Rows (xs ++ ys ++ [z]) = .s false (xs.map Fla.cs ++ (ys.map Fla.cs ++ [z.cs])) by simp [Rows]] at hA
    unfold dotE at hw he
    generalize argsE f p r ((xs.length : Int) != ys.length || decide ((1000 : Int) < xs.length)) (xs ++ ys ++ [z]) = ae at *
    refine Does.of (nt := 108) Tryz.func20 rfl rfl rfl (by simp) ?_
    simp only [argTm, PV.ext, Ce.ext]
    refine Do.seqk fun _ k1_ => ?_
    refine Do.region [1,2,3,5,9,10] true ?_
    simp [go_sem]
    apply k1_; clear k1_
    refine Do.seqk fun _ k2_ => ?_
    refine Do.draw [1,2,3,5,9,10,13] true (by kernel_rfl) ?_
    simp [go_sem]
    repeat (refine And.intro (by first | omega | (intros; omega) | (intros; exact And.intro (by assumption) (by omega)) | kernel_rfl | grind) ?_)
    try (refine And.intro (by kernel_rfl) ?_)
    apply k2_; clear k2_
    refine Do.seqk fun _ k3_ => ?_
    refine Do.region [1,2,5,9,10,14,15] true ?_
    simp [go_sem]
    repeat (refine And.intro (by first | omega | (intros; omega) | (intros; exact And.intro (by assumption) (by omega)) | grind) ?_)
    refine DoL.sealS true 213 100 rfl ?_
    simp [go_sem]
    refine DoL.call true 214 rfl rfl rfl rfl (by first | exact trivial | omega | (simp; done) | (simp; omega)) (hA) rfl (by first | exact .inl rfl | exact .inr rfl) rfl ?_
    simp [go_sem]
    apply k3_; clear k3_
    refine Do.seqk fun _ k4_ => ?_
    refine Do.seqk fun _ k5_ => ?_
    refine Do.region [1,2,5,9,10,14,15,47] true ?_
    simp [go_sem]
    apply k5_; clear k5_
    refine Do.cond [1,2,5,9,10,14,15] rfl (fun h => ?_) (fun h => ?_) <;> simp [go_sem] at h ⊢
    · refine Do.seqk fun _ k6_ => ?_
      refine Do.region [10,11,12] true ?_
      simp [go_sem]
      repeat (refine And.intro (by first | omega | (intros; omega) | (intros; exact And.intro (by assumption) (by omega)) | grind) ?_)
      apply k6_; clear k6_
      refine Do.ret ?_
      simp [endQ, rets, ret1, go_sem]
      repeat (refine And.intro (by first | omega | (intros; omega) | (intros; exact And.intro (by assumption) (by omega)) | grind) ?_)
      subst hw
      exact ret_res (ret_z rfl) rfl
    · exact absurd h he
end Go.Proofs.YthpkhmbjmnhmoaaGreatDoor
/- Sums of products, by the reference. No condition. -/
namespace Go.Proofs.YthpkhmbjmnhmoaaGreatDoor
set_option linter.unusedVariables false
set_option linter.unusedSimpArgs false
set_option maxHeartbeats 4000000
set_option maxRecDepth 10000
/-- A float of the reference that is small. -/
structure Rs (x : Fla) : Prop where
  rt : Rt x
  lo : -100000 ≤ (rcanon x.flt).e
  hi : (rcanon x.flt).e ≤ 100000
  bl : bl (rcanon x.flt).v ≤ 256
theorem held_rs {f p : Int} (hf : fmOk f p = true) {x : Fla} (h : (holdsP f p x.flt).2 = true) (hr : Rt x) : Rs x := by
  have h1 := held_small hf h
  rw [← (held_rcanon h).1] at h1
  exact ⟨hr, h1.1, h1.2.1, h1.2.2.1⟩
theorem prodF_rt {x y : Fla} (hx : Rs x) (hy : Rs y) : Rt (prodF x.flt y.flt).1.fla := by
  have hp := prodF_pr hx.rt hy.rt
  have hm := bl_mul_le (rcanon x.flt).v (rcanon y.flt).v
  have a1 := hx.bl
  have a2 := hx.lo
  have a3 := hx.hi
  have b1 := hy.bl
  have b2 := hy.lo
  have b3 := hy.hi
  have key : bl (prodF x.flt y.flt).1.v ≤ 512 ∧ (canon (prodF x.flt y.flt).1).2 = true := by
    have hpos := hp.pos
    unfold prodF at hpos ⊢
    split
    · exact ⟨by simp [bl_zero], rfl⟩
    · split
      · exact ⟨by simp [bl_zero], rfl⟩
      · split
        · exact ⟨by simp [bl_zero], rfl⟩
        · split
          · exact ⟨by simp [bl_zero], rfl⟩
          · rename_i h1 h2 h3 h4
            rw [if_neg h1, if_neg h2, if_neg h3, if_neg h4] at hpos
            have hv := hpos rfl
            simp only [] at hv ⊢
            refine ⟨by omega, ?_⟩
            have htz := tz_lt_bl (show 0 < (rcanon x.flt).v * (rcanon y.flt).v by omega)
            unfold canon
            simp only []
            rw [if_neg (by omega), if_neg (by omega), if_pos trivial, if_neg (by omega)]
            simp only [decide_eq_true_eq]
            omega
  refine ⟨by rw [Flt.fla_flt]; exact key.2, nat_ws _, ?_⟩
  have := len_bl key.1
  show (nat (prodF x.flt y.flt).1.v).length ≤ 4096
  omega
def anyNan (ps : List (Flt × Bool)) : Bool := ps.any fun q => q.1.k == 3
def anyBad (ps : List (Flt × Bool)) : Bool := ps.any fun q => !q.2
theorem anyNan_snoc (ps : List (Flt × Bool)) (q : Flt × Bool) : anyNan (ps ++ [q]) = (anyNan ps || q.1.k == 3) := by simp [anyNan]
theorem anyBad_snoc (ps : List (Flt × Bool)) (q : Flt × Bool) : anyBad (ps ++ [q]) = (anyBad ps || !q.2) := by simp [anyBad]
theorem RDot_does {G : Gl} {f p r : Int} (hf : fmOk f p = true) (hr : 0 ≤ r) (hr' : r ≤ 4) {xs ys : List Fla} {z : Fla} (hl : xs.length = ys.length) (hl2 : ys.length < 1000000) (hx : ∀ x ∈ xs, Rs x) (hy : ∀ x ∈ ys, Rs x) (hz : Rt z) :
    Does Tryz.prog G 19 [Fm f p, .c (.i .i64 r), Rows xs, Rows ys, Fl z.k z.n z.e z.m] (.t [(dotR f p r ((xs.map fun x => rcanon x.flt).zip (ys.map fun x => rcanon x.flt)) (rcanon z.flt)).1.pw, .c (.i .i64 (dotR f p r ((xs.map fun x => rcanon x.flt).zip (ys.map fun x => rcanon x.flt)) (rcanon z.flt)).2)]) := by
  generalize hw : dotR f p r ((xs.map fun x => rcanon x.flt).zip (ys.map fun x => rcanon x.flt)) (rcanon z.flt) = w
  unfold dotR at hw
  obtain ⟨ps, hps⟩ : ∃ ps, psOf ((xs.map fun x => rcanon x.flt).zip (ys.map fun x => rcanon x.flt)) = ps := ⟨_, rfl⟩
  have hget : ∀ (i : Nat) (a b : Fla), xs[i]? = some a → ys[i]? = some b → ps[i]? = some (prodF a.flt b.flt) := fun i a b h1 h2 => by
    have h3 : ((xs.map fun x => rcanon x.flt).zip (ys.map fun x => rcanon x.flt))[i]? = some (rcanon a.flt, rcanon b.flt) := List.getElem?_zip_eq_some.2 ⟨by simp [h1], by simp [h2]⟩
    rw [← hps, psOf, List.getElem?_map, h3]
    simp only [Option.map_some, prodF_rc]
  have hpl : ps.length = ys.length := by rw [← hps]; simp [psOf]; omega
  have hprt : ∀ q ∈ ps, Rt q.1.fla := fun q hq => by
    obtain ⟨i, hi, e⟩ := List.getElem_of_mem hq
    have ha : xs[i]? = some xs[i] := List.getElem?_eq_getElem (by omega)
    have hb : ys[i]? = some ys[i] := List.getElem?_eq_getElem (by omega)
    have h3 := hget i _ _ ha hb
    rw [List.getElem?_eq_getElem hi, e] at h3
    rw [Option.some.inj h3]
    exact prodF_rt (hx _ (List.mem_of_getElem? ha)) (hy _ (List.mem_of_getElem? hb))
  have hT := @RTotal_right G f p r hf hr hr' (z :: ps.map fun q => q.1.fla) (by simp; omega) (by
    intro u hu
    rcases List.mem_cons.1 hu with rfl | hu
    · exact hz
    · obtain ⟨q, hq, rfl⟩ := List.mem_map.1 hu
      exact hprt q hq)
  rw [show ((z :: ps.map fun q => q.1.fla).map fun x => rcanon x.flt) = rcanon (rcanon z.flt) :: ps.map fun q => rcanon q.1 by simp [Flt.fla_flt, rcanon_idem, Function.comp_def]] at hT
  rw [show Rows (z :: ps.map fun q => q.1.fla) = .s false (z.cs :: ps.map fun q => q.1.cs) by simp [Rows, Function.comp_def]] at hT
  rw [hps, rcanon_k, show z.flt.k = z.k from rfl] at hw
  have hP := fun (a b : Fla) (h1 : Rt a) (h2 : Rt b) => @Product_does G a b h1 h2
  clear hps
  generalize (gatherP (rcanon (rcanon z.flt) :: ps.map fun q => rcanon q.1)).float f p r = tot at *
  have hw2 : (if z.k = 3 ∨ anyNan ps = true then (⟨3, false, 0, 0⟩, 0) else if anyBad ps = true then (⟨3, false, 0, 0⟩, 16) else tot) = w := hw
  clear hw
  refine Does.of (nt := 68) Tryz.func19 rfl rfl rfl (by simp) ?_
  simp only [argTm, PV.ext, Ce.ext]
  refine Do.seqk fun _ k1_ => ?_
  refine Do.region [1,2,3,5,9,10] true ?_
  simp [go_sem]
  apply k1_; clear k1_
  refine Do.seqk fun _ k2_ => ?_
  refine Do.region [1,2,3,5,9,10,12] true ?_
  simp [go_sem]
  repeat (refine And.intro (by first | omega | (intros; omega) | (intros; exact And.intro (by assumption) (by omega)) | grind) ?_)
  apply k2_; clear k2_
  refine Do.seqk fun _ k3_ => ?_
  refine Do.region [1,2,3,5,10,12,13,14] true ?_
  simp [go_sem]
  repeat (refine And.intro (by first | omega | (intros; omega) | (intros; exact And.intro (by assumption) (by omega)) | grind) ?_)
  apply k3_; clear k3_
  refine Do.seqk fun _ k4_ => ?_
  refine Do.seqk fun _ k5_ => ?_
  refine Do.region [1,2,3,5,10,12,13,14,15] true ?_
  simp [go_sem]
  apply k5_; clear k5_
  refine Do.block ?_
  refine Do.loopF [1,2,3,5,10,12,13,14,15] (fun (i : Nat) => [(12, .v (.c (.r 101 (i + 1)))), (13, .v (.c (.b (z.k == 3 || anyNan (ps.take i))))), (14, .v (.c (.b (anyBad (ps.take i))))), (15, .int .i64 i)]) (fun (i : Nat) => [(101, .sr 4 (z.cs :: (ps.map fun q => q.1.cs).take i))]) (fun (i : Nat) => i ≤ ys.length) (fun (i : Nat) => ys.length - i) (0) (fun _ => by first | (simp [go_sem, mixS]; done) | (simp [go_sem, mixS]; rfl)) (St.le_of (by simp [keep, anyNan, anyBad]) (by simp [keep])) (Nat.zero_le _) ?_
  intro i hi
  refine Do.seqk fun _ k6_ => ?_
  refine Do.seqk fun _ k7_ => ?_
  refine Do.region [1,2,3,5,10,12,13,14,15,26] true ?_
  simp [go_sem]
  repeat (refine And.intro (by first | omega | (intros; omega) | (intros; exact And.intro (by assumption) (by omega)) | grind) ?_)
  apply k7_; clear k7_
  refine Do.cond [1,2,3,5,10,12,13,14,15] rfl (fun h2 => ?_) (fun h2 => ?_) <;> simp [go_sem] at h2 ⊢
  · obtain ⟨a, ha⟩ : ∃ a, xs[i]? = some a := ⟨_, List.getElem?_eq_getElem (by omega)⟩
    obtain ⟨b, hb⟩ : ∃ b, ys[i]? = some b := ⟨_, List.getElem?_eq_getElem (by omega)⟩
    have hg := hget i a b ha hb
    have hD := hP a b (hx a (List.mem_of_getElem? ha)).rt (hy b (List.mem_of_getElem? hb)).rt
    generalize prodF a.flt b.flt = q at *
    have e1 : ps.take (i + 1) = ps.take i ++ [q] := by rw [List.take_add_one, hg]; rfl
    have hmin : min i ps.length = i := by omega
    refine Do.skip ?_
    simp [go_sem]
    apply k6_; clear k6_
    refine Do.seqk fun _ k8_ => ?_
    refine Do.block ?_
    refine Do.seqk fun _ k9_ => ?_
    refine Do.draw [1,2,3,5,10,12,13,14,15,16,17] true (by kernel_rfl) ?_
    simp [go_sem, ha, hb, hmin]
    repeat (refine And.intro (by first | omega | (intros; omega) | (intros; exact And.intro (by assumption) (by omega)) | kernel_rfl | grind) ?_)
    refine DoLD.call true 609 rfl rfl rfl rfl (by first | exact trivial | omega | (simp; done) | (simp; omega)) (hD) rfl (by first | exact .inl rfl | exact .inr rfl) rfl ?_
    simp [go_sem, ha, hb, hmin]
    repeat (refine And.intro (by first | omega | (intros; omega) | (intros; exact And.intro (by assumption) (by omega)) | kernel_rfl | grind) ?_)
    try (refine And.intro (by kernel_rfl) ?_)
    apply k9_; clear k9_
    refine Do.seqk fun _ k10_ => ?_
    refine Do.region [1,2,3,5,10,12,13,14,15,16,17] true ?_
    simp [go_sem, ha, hb, hmin]
    repeat (refine And.intro (by first | omega | (intros; omega) | (intros; exact And.intro (by assumption) (by omega)) | grind) ?_)
    apply k10_; clear k10_
    refine Do.seqk fun _ k11_ => ?_
    refine Do.region [1,2,3,5,10,12,13,14,15,16] true ?_
    simp [go_sem, ha, hb, hmin]
    repeat (refine And.intro (by first | omega | (intros; omega) | (intros; exact And.intro (by assumption) (by omega)) | grind) ?_)
    apply k11_; clear k11_
    refine Do.region [1,2,3,5,10,12,13,14,15] true ?_
    simp [go_sem, ha, hb, hmin]
    repeat (refine And.intro (by first | omega | (intros; omega) | (intros; exact And.intro (by assumption) (by omega)) | grind) ?_)
    apply k8_; clear k8_
    refine Do.region [1,2,3,5,10,12,13,14,15] true ?_
    simp [go_sem, ha, hb, hmin]
    repeat (refine And.intro (by first | omega | (intros; omega) | (intros; exact And.intro (by assumption) (by omega)) | grind) ?_)
    refine ⟨i + 1, St.le_of (by simp [keep, e1, anyNan_snoc, anyBad_snoc, Bool.or_assoc]) (by simp [keep, List.take_add_one, hg]), by omega, by simp; omega⟩
  · obtain rfl : i = ys.length := by omega
    rw [List.take_of_length_le (show ps.length ≤ ys.length by omega), List.take_of_length_le (by simp; omega)]
    refine Do.exit ?_
    simp [go_sem]
    apply k4_; clear k4_
    refine Do.seqk fun _ k12_ => ?_
    refine Do.block ?_
    refine Do.seqk fun _ k13_ => ?_
    refine Do.region [1,5,10,12,14,56] true ?_
    simp [go_sem]
    apply k13_; clear k13_
    refine Do.cond [1,5,10,12,14] rfl (fun h3 => ?_) (fun h3 => ?_) <;> simp [go_sem] at h3 ⊢
    · refine Do.seqk fun _ k14_ => ?_
      refine Do.region [10,11] true ?_
      simp [go_sem]
      repeat (refine And.intro (by first | omega | (intros; omega) | (intros; exact And.intro (by assumption) (by omega)) | grind) ?_)
      apply k14_; clear k14_
      refine Do.ret ?_
      simp [endQ, rets, ret1, go_sem]
      repeat (refine And.intro (by first | omega | (intros; omega) | (intros; exact And.intro (by assumption) (by omega)) | grind) ?_)
      rw [if_pos (by simpa using h3)] at hw2
      subst hw2
      exact TLe.t (.cons (PLe.flw (ret_zw rfl)) (.cons (PLe.refl _) .nil))
    · rw [if_neg (by simpa using h3)] at hw2
      refine Do.seqk fun _ k15_ => ?_
      refine Do.region [1,5,10,12,59] true ?_
      simp [go_sem]
      apply k15_; clear k15_
      refine Do.cond [1,5,10,12] rfl (fun h4 => ?_) (fun h4 => ?_) <;> simp [go_sem] at h4 ⊢
      · refine Do.seqk fun _ k16_ => ?_
        refine Do.region [10,11] true ?_
        simp [go_sem]
        repeat (refine And.intro (by first | omega | (intros; omega) | (intros; exact And.intro (by assumption) (by omega)) | grind) ?_)
        apply k16_; clear k16_
        refine Do.ret ?_
        simp [endQ, rets, ret1, go_sem]
        repeat (refine And.intro (by first | omega | (intros; omega) | (intros; exact And.intro (by assumption) (by omega)) | grind) ?_)
        rw [if_pos (by simpa using h4)] at hw2
        subst hw2
        exact TLe.t (.cons (PLe.flw (ret_zw rfl)) (.cons (PLe.refl _) .nil))
      · rw [if_neg (by simpa using h4)] at hw2
        refine Do.skip ?_
        simp [go_sem]
        apply k12_; clear k12_
        refine Do.seqk fun _ k17_ => ?_
        refine Do.region [10,11] true ?_
        simp [go_sem]
        repeat (refine And.intro (by first | omega | (intros; omega) | (intros; exact And.intro (by assumption) (by omega)) | grind) ?_)
        refine DoL.sealS true 1403 101 rfl ?_
        simp [go_sem, hpl]
        refine DoL.call true 1404 rfl rfl rfl rfl (by first | exact trivial | omega | (simp; done) | (simp; omega)) (hT) rfl (by first | exact .inl rfl | exact .inr rfl) rfl ?_
        simp [go_sem]
        repeat (refine And.intro (by first | omega | (intros; omega) | (intros; exact And.intro (by assumption) (by omega)) | grind) ?_)
        apply k17_; clear k17_
        refine Do.ret ?_
        simp [endQ, rets, ret1, go_sem]
        repeat (refine And.intro (by first | omega | (intros; omega) | (intros; exact And.intro (by assumption) (by omega)) | grind) ?_)
        subst hw2
        exact TLe.refl _
end Go.Proofs.YthpkhmbjmnhmoaaGreatDoor
/- The program awake: products. No condition. -/
namespace Go.Proofs.YthpkhmbjmnhmoaaGreatDoor
set_option linter.unusedVariables false
set_option linter.unusedSimpArgs false
set_option maxHeartbeats 4000000
set_option maxRecDepth 10000
theorem PFused_does {f p r : Int} {x y z : Fla} (hx : x.Ok) (hy : y.Ok) (hz : z.Ok) : Does Tryz.prog Gv 18 [Fm f p, .c (.i .i64 r), Fl x.k x.n x.e x.m, Fl y.k y.n y.e y.m, Fl z.k z.n z.e z.m] (Res (dotA f p r [x] [y] z)) := by
  have hD : Does Tryz.prog Gv 20 [Fm f p, .c (.i .i64 r), .s false [x.cs], .s false [y.cs], Fl z.k z.n z.e z.m] (Res (dotA f p r [x] [y] z)) := PDot_does (xs := [x]) (ys := [y]) (by simp) (by simp) (by simp [hx]) (by simp [hy]) hz
  generalize dotA f p r [x] [y] z = w at *
  refine Does.of (nt := 24) Tryz.func18 rfl rfl rfl (by simp) ?_
  simp only [argTm, PV.ext, Ce.ext]
  refine Do.seqk fun _ k1_ => ?_
  refine Do.region [1,5,7,8,9,10] true ?_
  simp [go_sem]
  apply k1_; clear k1_
  refine Do.seqk fun _ k2_ => ?_
  refine Do.region [10,11,12] true ?_
  simp [go_sem]
  repeat (refine And.intro (by first | omega | (intros; omega) | (intros; exact And.intro (by assumption) (by omega)) | grind) ?_)
  refine DoL.sealS true 107 103 rfl ?_
  simp [go_sem]
  refine DoL.sealS true 107 105 rfl ?_
  simp [go_sem]
  refine DoL.call true 108 rfl rfl rfl rfl (by first | exact trivial | omega | (simp; done) | (simp; omega)) (hD) rfl (by first | exact .inl rfl | exact .inr rfl) rfl ?_
  simp [go_sem]
  repeat (refine And.intro (by first | omega | (intros; omega) | (intros; exact And.intro (by assumption) (by omega)) | grind) ?_)
  apply k2_; clear k2_
  refine Do.ret ?_
  simp [endQ, rets, ret1, go_sem]
  repeat (refine And.intro (by first | omega | (intros; omega) | (intros; exact And.intro (by assumption) (by omega)) | grind) ?_)
  exact TLe.refl _
theorem awk_mul : mulP 5 11 0 ⟨1, false, 0, [33]⟩ ⟨1, false, 0, [63]⟩ = (⟨1, false, 5, 65⟩, 1, 0) := by kernel_rfl
theorem awk_dot : dotA 5 11 0 [⟨1, false, 0, [33]⟩] [⟨1, false, 0, [63]⟩] ⟨1, false, 0, [1]⟩ = (⟨1, false, 5, 65⟩, 0, 0) := by kernel_rfl
theorem awk_inf : mulP 5 11 0 ⟨0, false, 0, []⟩ ⟨2, false, 0, []⟩ = (⟨3, false, 0, 0⟩, 16, 0) := by kernel_rfl
theorem awk_same18 : sameP ⟨1, false, 5, 65⟩ ⟨1, false, 5, 65⟩ = true := by kernel_rfl
theorem nat_word' {n : Nat} (h0 : n ≠ 0) (h : n < 18446744073709551616) : nat n = [n] := by
  unfold nat; rw [dif_neg h0]; rw [show n / 18446744073709551616 = 0 by omega, nat_zero, Nat.mod_eq_of_lt h]
theorem awake18_does : Does Tryz.prog Gv 11 [] (.v (.c (.b true))) := by
  have o1 : (Fla.mk 1 false 0 [33]).Ok := ⟨by simp [Sh], fun w hw => by simp at hw; omega, by constructor <;> simp⟩
  have o2 : (Fla.mk 1 false 0 [63]).Ok := ⟨by simp [Sh], fun w hw => by simp at hw; omega, by constructor <;> simp⟩
  have o3 : (Fla.mk 1 false 0 [1]).Ok := ⟨by simp [Sh], fun w hw => by simp at hw; omega, by constructor <;> simp⟩
  have o4 : (Fla.mk 0 false 0 []).Ok := ⟨by simp [Sh], fun w hw => by simp at hw, by constructor <;> simp⟩
  have o5 : (Fla.mk 2 false 0 []).Ok := ⟨by simp [Sh], fun w hw => by simp at hw, by constructor <;> simp⟩
  have h1 := PMul_does (f := 5) (p := 11) (r := 0) o1 o2
  have h2 := PFused_does (f := 5) (p := 11) (r := 0) o1 o2 o3
  have h3 := PMul_does (f := 5) (p := 11) (r := 0) o4 o5
  have h4 := @Same_does 1 false 5 [65] 1 false 5 [65] (by simp [Sh]) (fun w hw => by simp at hw; omega) (by constructor <;> omega) (by simp [Sh]) (fun w hw => by simp at hw; omega) (by constructor <;> omega)
  rw [awk_mul] at h1
  rw [awk_dot] at h2
  rw [awk_inf] at h3
  rw [show val [65] = 65 from rfl, awk_same18] at h4
  have h1 : Does Tryz.prog Gv 12 [Fm 5 11, .c (.i .i64 0), Fl 1 false 0 [33], Fl 1 false 0 [63]] (.t [Fl 1 false 5 (nat 65), .c (.i .i64 1), .c (.i .i64 0)]) := h1
  have h2 : Does Tryz.prog Gv 18 [Fm 5 11, .c (.i .i64 0), Fl 1 false 0 [33], Fl 1 false 0 [63], Fl 1 false 0 [1]] (.t [Fl 1 false 5 (nat 65), .c (.i .i64 0), .c (.i .i64 0)]) := h2
  have h3 : Does Tryz.prog Gv 12 [Fm 5 11, .c (.i .i64 0), .a [.i .i64 0, .b false, .i .i64 0, .z], .a [.i .i64 2, .b false, .i .i64 0, .z]] (.t [Fl 3 false 0 (nat 0), .c (.i .i64 16), .c (.i .i64 0)]) :=
    h3.weak (.cons (PLe.refl _) (.cons (PLe.refl _) (.cons (PLe.flt (PLe.z false)) (.cons (PLe.flt (PLe.z false)) .nil))))
  rw [nat_word' (by decide) (by decide)] at h1 h2
  rw [nat_zero] at h3
  refine Does.of (nt := 101) Tryz.func11 rfl rfl rfl (by simp) ?_
  simp only [argTm, PV.ext, Ce.ext]
  refine Do.seqk fun _ k1_ => ?_
  refine Do.region [] true ?_
  simp [go_sem]
  apply k1_; clear k1_
  refine Do.seqk fun _ k2_ => ?_
  refine Do.region [1] true ?_
  simp [go_sem]
  repeat (refine And.intro (by first | omega | (intros; omega) | (intros; exact And.intro (by assumption) (by omega)) | grind) ?_)
  apply k2_; clear k2_
  refine Do.seqk fun _ k3_ => ?_
  refine Do.region [1,2] true ?_
  simp [go_sem]
  repeat (refine And.intro (by first | omega | (intros; omega) | (intros; exact And.intro (by assumption) (by omega)) | grind) ?_)
  apply k3_; clear k3_
  refine Do.seqk fun _ k4_ => ?_
  refine Do.region [1,2,3] true ?_
  simp [go_sem]
  repeat (refine And.intro (by first | omega | (intros; omega) | (intros; exact And.intro (by assumption) (by omega)) | grind) ?_)
  apply k4_; clear k4_
  refine Do.seqk fun _ k5_ => ?_
  refine Do.region [1,2,3,4] true ?_
  simp [go_sem]
  repeat (refine And.intro (by first | omega | (intros; omega) | (intros; exact And.intro (by assumption) (by omega)) | grind) ?_)
  apply k5_; clear k5_
  refine Do.seqk fun _ k6_ => ?_
  refine Do.frz 200 rfl ?_
  refine Do.frz 300 rfl ?_
  refine Do.frz 400 rfl ?_
  refine Do.region [1,2,3,4,5,6,7] true ?_
  simp [go_sem]
  repeat (refine And.intro (by first | omega | (intros; omega) | (intros; exact And.intro (by assumption) (by omega)) | grind) ?_)
  refine DoL.call true 504 rfl rfl rfl rfl (by first | exact trivial | omega | (simp; done) | (simp; omega)) (h1) rfl (by first | exact .inl rfl | exact .inr rfl) rfl ?_
  simp [go_sem]
  repeat (refine And.intro (by first | omega | (intros; omega) | (intros; exact And.intro (by assumption) (by omega)) | grind) ?_)
  apply k6_; clear k6_
  refine Do.seqk fun _ k7_ => ?_
  refine Do.region [1,5,6,7,8,9,10] true ?_
  simp [go_sem]
  repeat (refine And.intro (by first | omega | (intros; omega) | (intros; exact And.intro (by assumption) (by omega)) | grind) ?_)
  refine DoL.call true 605 rfl rfl rfl rfl (by first | exact trivial | omega | (simp; done) | (simp; omega)) (h2) rfl (by first | exact .inl rfl | exact .inr rfl) rfl ?_
  simp [go_sem]
  repeat (refine And.intro (by first | omega | (intros; omega) | (intros; exact And.intro (by assumption) (by omega)) | grind) ?_)
  apply k7_; clear k7_
  refine Do.seqk fun _ k8_ => ?_
  refine Do.region [5,6,7,8,9,10,11,12,13] true ?_
  simp [go_sem]
  repeat (refine And.intro (by first | omega | (intros; omega) | (intros; exact And.intro (by assumption) (by omega)) | grind) ?_)
  refine DoL.call true 704 rfl rfl rfl rfl (by first | exact trivial | omega | (simp; done) | (simp; omega)) (h3) rfl (by first | exact .inl rfl | exact .inr rfl) rfl ?_
  simp [go_sem]
  repeat (refine And.intro (by first | omega | (intros; omega) | (intros; exact And.intro (by assumption) (by omega)) | grind) ?_)
  apply k8_; clear k8_
  refine Do.seqk fun _ k9_ => ?_
  refine Do.region [0] true ?_
  simp [go_sem]
  repeat (refine And.intro (by first | omega | (intros; omega) | (intros; exact And.intro (by assumption) (by omega)) | grind) ?_)
  refine DoL.callg true 841 rfl rfl rfl rfl rfl (by simp [go_sem] <;> omega) (fun _ => h4) rfl (by first | exact .inl rfl | exact .inr rfl) rfl ?_
  simp [go_sem]
  repeat (refine And.intro (by first | omega | (intros; omega) | (intros; exact And.intro (by assumption) (by omega)) | grind) ?_)
  apply k9_; clear k9_
  refine Do.ret ?_
  simp [endQ, rets, ret1, go_sem]
  repeat (refine And.intro (by first | omega | (intros; omega) | (intros; exact And.intro (by assumption) (by omega)) | grind) ?_)
  exact TLe.refl _
theorem dotA_fine {f p r : Int} {xs ys : List Fla} {z : Fla} : rcanon (dotA f p r xs ys z).1 = (dotA f p r xs ys z).1 ∧ Fine (dotA f p r xs ys z).1 := by
  unfold dotA
  split
  · rename_i h
    have hf := (argsE_zero h).2.2.2.2.1
    exact ⟨float_fix hf, float_fine hf⟩
  · exact ⟨rfl, fine_zero⟩
end Go.Proofs.YthpkhmbjmnhmoaaGreatDoor
/- The law ProductMuls. No condition. -/
namespace Go.Proofs.YthpkhmbjmnhmoaaGreatDoor
set_option linter.unusedVariables false
set_option linter.unusedSimpArgs false
set_option maxHeartbeats 4000000
set_option maxRecDepth 10000
end Go.Proofs.YthpkhmbjmnhmoaaGreatDoor
/- The law ProductFused. No condition. -/
namespace Go.Proofs.YthpkhmbjmnhmoaaGreatDoor
set_option linter.unusedVariables false
set_option linter.unusedSimpArgs false
set_option maxHeartbeats 4000000
set_option maxRecDepth 10000
theorem dot_ref {f p r : Int} {xs ys : List Fla} {z : Fla} (he : dotE f p r xs ys z = 0) (ho : ∀ u ∈ xs ++ ys ++ [z], u.Ok) :
    (fmOk f p = true ∧ 0 ≤ r ∧ r ≤ 4 ∧ xs.length = ys.length ∧ ys.length ≤ 1000 ∧ (∀ x ∈ xs, Rs x) ∧ (∀ x ∈ ys, Rs x) ∧ Rt z) ∧
    dotA f p r xs ys z = ((dotR f p r ((xs.map fun x => rcanon x.flt).zip (ys.map fun x => rcanon x.flt)) (rcanon z.flt)).1, (dotR f p r ((xs.map fun x => rcanon x.flt).zip (ys.map fun x => rcanon x.flt)) (rcanon z.flt)).2, 0) := by
  have he' := he
  unfold dotE at he'
  obtain ⟨h1, h2, h3, h4, h5, h6⟩ := argsE_zero he'
  have hall : ∀ x ∈ xs ++ ys ++ [z], (holdsP f p x.flt).2 = true := fun x hx => by simpa using List.all_eq_true.1 h6 x hx
  have hrt := held_rt h6 ho h1
  have hlen : xs.length = ys.length ∧ ys.length ≤ 1000 := by simp at h4; omega
  refine ⟨⟨h5, h2, h3, hlen.1, hlen.2, fun x hx => held_rs h5 (hall x (by simp [hx])) (hrt x (by simp [hx])), fun x hx => held_rs h5 (hall x (by simp [hx])) (hrt x (by simp [hx])), hrt z (by simp)⟩, ?_⟩
  have ex : heldL f p xs = xs.map fun x => rcanon x.flt := by
    unfold heldL
    exact List.map_congr_left fun x hx => (held_rcanon (hall x (by simp [hx]))).1.symm
  have ey : heldL f p ys = ys.map fun x => rcanon x.flt := by
    unfold heldL
    exact List.map_congr_left fun x hx => (held_rcanon (hall x (by simp [hx]))).1.symm
  have ez := (held_rcanon (hall z (by simp))).1
  have hs : dotP f p r (tsOf ((heldL f p xs).zip (heldL f p ys))) (holdsP f p z.flt).1 = dotR f p r ((heldL f p xs).zip (heldL f p ys)) (holdsP f p z.flt).1 := by
    refine dot_same (w := -200000) ?_ (held_cf (hall z (by simp))) (by omega) ?_ ?_
    · intro q hq
      obtain ⟨q1, q2⟩ := q
      have m1 := (List.of_mem_zip hq).1
      have m2 := (List.of_mem_zip hq).2
      obtain ⟨x, hx, e1⟩ := List.mem_map.1 m1
      obtain ⟨y, hy, e2⟩ := List.mem_map.1 m2
      simp only [← e1, ← e2]
      exact ⟨held_cf (hall x (by simp [hx])), held_cf (hall y (by simp [hy]))⟩
    · intro q hq _ _
      obtain ⟨q1, q2⟩ := q
      have m1 := (List.of_mem_zip hq).1
      have m2 := (List.of_mem_zip hq).2
      obtain ⟨x, hx, e1⟩ := List.mem_map.1 m1
      obtain ⟨y, hy, e2⟩ := List.mem_map.1 m2
      have s1 := held_small h5 (hall x (by simp [hx]))
      have s2 := held_small h5 (hall y (by simp [hy]))
      simp only [← e1, ← e2]
      omega
    · intro _
      have := held_small h5 (hall z (by simp))
      omega
  rw [dotA, if_pos he, hs, ex, ey, ez]
end Go.Proofs.YthpkhmbjmnhmoaaGreatDoor
/- The law ProductDots. No condition. -/
namespace Go.Proofs.YthpkhmbjmnhmoaaGreatDoor
set_option linter.unusedVariables false
set_option linter.unusedSimpArgs false
set_option maxHeartbeats 4000000
set_option maxRecDepth 10000
end Go.Proofs.YthpkhmbjmnhmoaaGreatDoor
/- The parts of a product. No condition. -/
namespace Go.Proofs.YthpkhmbjmnhmoaaGreatDoor
set_option linter.unusedVariables false
set_option linter.unusedSimpArgs false
set_option maxHeartbeats 4000000
set_option maxRecDepth 10000
theorem sv_natAbs' (z : Int) (y : Nu) : (y.sv z).natAbs = y.v * 2 ^ (y.e - z).toNat := by
  unfold Nu.sv
  split
  · rw [Int.natAbs_neg, Int.natAbs_natCast]
  · rw [Int.natAbs_natCast]
theorem fv_abs {z : Int} {x : Flt} {c : Int} (hz : z ≤ 0) (h : x.k = 1 → x.e + bl x.v ≤ c ∧ z ≤ x.e) (hc : 0 ≤ c) : bl (fv z x).natAbs ≤ (c - z).toNat := by
  unfold fv
  split
  · rename_i hk
    obtain ⟨h1, h2⟩ := h hk
    rw [sv_natAbs']
    simp only []
    rcases Nat.eq_zero_or_pos x.v with h0 | h0
    · rw [h0, Nat.zero_mul, bl_zero]; omega
    · rw [bl_mul_pow _ _ h0]; omega
  · simp [bl_zero]
section
variable {f p : Int} {x y : Fla}
end
end Go.Proofs.YthpkhmbjmnhmoaaGreatDoor
/- The law ProductParts. No condition. -/
namespace Go.Proofs.YthpkhmbjmnhmoaaGreatDoor
set_option linter.unusedVariables false
set_option linter.unusedSimpArgs false
set_option maxHeartbeats 4000000
set_option maxRecDepth 10000
section
variable {f p : Int} {x y : Fla}
end
end Go.Proofs.YthpkhmbjmnhmoaaGreatDoor
/- A part of a row of the call's own, given to a call; functions whose result is a row of words of the caller's. No condition. -/
namespace Go.Proofs.YthpkhmbjmnhmoaaGreatDoor
set_option linter.unusedVariables false
set_option linter.unusedSimpArgs false
section
variable {P : Program} {G : Gl} {nt : Nat} {st : St} {cx : Cx} {a : Act} {W W' : World} {m : Nat → Option Nat} {QE : Exit → St → Prop} {ops l : List Oper} {Q : St → Prop}
/-- A part of a row of words that this call writes, read by the call that follows. -/
theorem DoL.part {o1 o2 o3 : Oper} {t e : TypeId} {b1 z1 : Nat} {c1 : List Ce} {te : TI} {x lo hi y : Operand} {j n d1 d2 : Nat} {w : List Nat} {l0 h0 : Int} {yv : PV} {f : FuncId} {xf : Operand} {ts : Array TypeId} {ret : TV} (md : Bool) (lab : Nat)
    (hg1 : o1.guard = none) (hop1 : o1.op = .slice t x (some lo) (some hi) none) (hd1 : o1.dst = some d1) (hn1 : d1 < nt)
    (hg2 : o2.guard = none) (hop2 : o2.op = .move y) (hd2 : o2.dst = some d2) (hn2 : d2 < nt) (hne : d2 ≠ d1)
    (hg3 : o3.guard = none) (hop3 : o3.op = .call { callee := .value xf, args := #[.tmp d1, .tmp d2], argTypes := ts }) (hd3 : dstOk nt o3.dst = true)
    (ht : tiOf P t = some ⟨b1, z1, c1, .slice e⟩) (he : tiOf P e = some te) (hsz : te.size = 1)
    (hx : opv st.tm x = some (.v (.c (.r j n)))) (hj : lk j st.ob = some (.wr w)) (hlo : opv st.tm lo = some (.v (.c (.i .i64 l0)))) (hhi : opv st.tm hi = some (.v (.c (.i .i64 h0))))
    (hy : opv (del d1 st.tm) y = some (.v yv)) (hxf : opv (put d2 (.v yv) (del d1 st.tm)) xf = some (.v (.c (.f f))))
    (hp : w.length = n ∧ 0 ≤ l0 ∧ l0 ≤ h0 ∧ h0 ≤ w.length) (hD : Does P G f [.c (.w false ((w.drop l0.toNat).take (h0.toNat - l0.toNat))), yv.ext] ret) (hl : ret.labs = []) (hf : ret.fr = true)
    (next : runs P G nt md ops Q lab l ⟨setv o3.dst (some ret) (put d2 (.v yv) (del d1 st.tm)), st.ob⟩) : DoL P G nt ops (o1 :: o2 :: o3 :: l) st Q := by
  intro cx a W hn ⟨m, hr⟩ Q' hQ
  subst hn
  have hw : RP (enA W (okC cx m st W true)) (.c (.w false w)) (a.eval x) := row_words hr hj hp.1 (hr.opv hx) rfl false fun b hb => ⟨.inr ⟨rfl, j, _, hj, hb⟩, fun e => (by cases e)⟩
  have vlo : a.eval lo = .int .i64 l0 := hr.opv hlo
  have vhi : a.eval hi = .int .i64 h0 := hr.opv hhi
  obtain ⟨_, yy, u, e1, e2, e3⟩ := sliceM_run (P := P) (W := W) (tiOf_slice ht) he (x := .v (.c (.w false w))) hw (n := w.length) (lo := l0) (hi := h0) (mx := none) (vlo := some (a.eval lo)) (vhi := some (a.eval hi)) (vmx := none) rfl (.inr (by rw [vlo])) (.inl ⟨rfl, rfl, .inr (by rw [vhi])⟩) (out := ⟨0 ≤ l0 ∧ l0 ≤ h0 ∧ h0 ≤ w.length ∧ (∀ x : Int, none = some x → h0 ≤ x ∧ x ≤ w.length), some (.v (.c (.w false ((w.drop l0.toNat).take (h0.toNat - l0.toNat))))), .none⟩) (by simp only [sliceM]; rw [if_pos hsz]) ⟨hp.2.1, hp.2.2.1, hp.2.2.2, fun x hx => by cases hx⟩
  injection e1 with e1; subst e1
  -- the part
  refine wpList_plain hg1 fun K1 hK1 => ?_
  unfold Oper.wp
  have x1 : (execOp a.eval o1).run P W = .ok (.value u) W := by
    have : execOp a.eval o1 = (do pure (.value (← Instr.sliceAt t (a.eval x) (some (a.eval lo)) (some (a.eval hi)) none))) := by
      unfold execOp; simp [hop1]
    rw [this]; simp [e2]
  rw [x1]
  refine hK1 _ _ ?_
  rw [hd1]
  have h1 := hr.forget d1 u
  generalize ha1 : a.put (some d1) u = a1 at *
  have hu1 : a1.tmps[d1]? = some u := by rw [← ha1]; simp [Act.put, hr.nt, hn1]
  -- the other argument
  refine wpList_plain hg2 fun K2 hK2 => ?_
  unfold Oper.wp
  have hyv : RT (en cx m st.ob W) (.v yv) (a1.eval y) := h1.opv hy
  have x2 : (execOp a1.eval o2).run P W = .ok (.value (a1.eval y)) W := by unfold execOp; simp [hop2]
  rw [x2]
  refine hK2 _ _ ?_
  rw [hd2]
  have h2 := h1.slot hn2 hyv
  generalize ha2 : a1.put (some d2) (a1.eval y) = a2 at *
  have hu2 : a2.tmps[d1]? = some u := by rw [← ha2]; simp [Act.put, Array.getElem?_setIfInBounds_ne hne, hu1]
  have hv2 : a2.tmps[d2]? = some (a1.eval y) := by rw [← ha2]; simp [Act.put, h1.nt, hn2]
  -- the call
  refine wpList_plain hg3 fun K hK => ?_
  unfold Oper.wp
  have hxv : a2.eval xf = .func (.func f) #[] #[] := h2.opv hxf
  have hexec : execOp a2.eval o3 = callFunc f [u, a1.eval y].toArray := by
    have q1 : a2.eval (.tmp d1) = u := by simp [Act.eval, hu2]
    have q2 : a2.eval (.tmp d2) = a1.eval y := by simp [Act.eval, hv2]
    unfold execOp
    simp [hop3, resolve, hxv, Deferred.ofValue, invoke, q1, q2]
  have hok : ∀ b, okC cx m st W true b → b < W.heap.size := by
    rintro b (h | ⟨_, j, o, g1, g2⟩)
    · exact h.2.1
    · exact (hr.own j o b g1 g2).1
  have hargs : All2 (RP (enA W (okC cx m st W true))) [.c (.w false ((w.drop l0.toNat).take (h0.toNat - l0.toNat))), yv.ext] [u, a1.eval y] :=
    .cons e3 (.cons (PLe.ext _ _ _ (RP.mono (okC_le cx m st W true) (fun _ _ => trivial) hyv)) .nil)
  rcases hD W (okC cx m st W true) _ hok h2.glOk hargs with ⟨g1, g2⟩ | ⟨v, g1, g2⟩
  · rw [hexec, g1]
    refine g2.mono fun en' W' ⟨v, he, hb, hrt⟩ => ?_
    subst he
    exact hK _ _ (DoL.run next cx _ _ rfl (Rel.put (h2.below hb) rfl hd3 (call_res (pur := true) (st := ⟨put d2 (.v yv) (del d1 st.tm), st.ob⟩) h2 hb hl (.inr hf) hrt)) Q' hQ)
  · rw [hexec, g1]
    have hb := RowKit.Below.refl W.heap.size W
    exact hK _ _ (DoL.run next cx _ _ rfl (Rel.put h2 rfl hd3 (call_res (pur := true) (st := ⟨put d2 (.v yv) (del d1 st.tm), st.ob⟩) h2 hb hl (.inr hf) g2)) Q' hQ)
/-- What a call computes whose one result is a row of words that its caller alone holds. -/
def DoesW (P : Program) (G : Gl) (f : FuncId) (args : List PV) (w : List Nat) : Prop :=
  ∀ (W : World) (ok : Nat → Prop) (vals : List Value), (∀ b, ok b → b < W.heap.size) → GlOk G W → All2 (RP (enA W ok)) args vals →
    (callFunc f vals.toArray).run P W = .ok (.enter f vals.toArray) W ∧ Calls P f vals.toArray W (fun e W' => ∃ sv bo, e = .returned sv ∧ RowKit.Below W.heap.size W W' ∧ (∀ b, bo = some b → W.heap.size ≤ b ∧ b < W'.heap.size) ∧
      RC (enO W W' ok bo (.wr w)) (.r 0 w.length) sv ∧ RO (enO W W' ok bo (.wr w)) 0 (.wr w))
def endRow (w : List Nat) (rs : List ResultVar) (e : Exit) (s : St) : Prop :=
  (e = .ret ∨ e = .normal) ∧ match rs with
    | [.tmp t] => (match lk t s.tm with
      | some (.v (.c (.r j n))) => n = w.length ∧ lk j s.ob = some (.wr w)
      | _ => False)
    | _ => False
theorem DoesW.of {f : FuncId} {fn : Func} {c : Code} {args : List PV} {w : List Nat} (hf : P.funcs[f]? = some fn) (hname : (fn.name == "runtime.NumGoroutine") = false) (hb : fn.body = some c) (hnt : fn.ntmps = nt) (hal : args.length ≤ nt)
    (h : Do P G nt c ⟨argTm 0 args, []⟩ (endRow w fn.results.toList)) : DoesW P G f args w := by
  intro W ok vals hok hgl hargs
  refine ⟨?_, ?_⟩
  · have hn' : fn.name ≠ "runtime.NumGoroutine" := by simpa using hname
    simp [callFunc, hf, hn', hb]
  · refine calls_of_wp hf hb ?_
    refine Code.wp_mono (fun e a' W' ⟨s, hq, m', hs⟩ => ?_) (h _ _ W rfl ⟨_, start_rel hok hgl hargs hal hnt⟩)
    obtain ⟨he, hret⟩ := hq
    split at hret
    case h_2 => exact hret.elim
    rename_i t hrs
    split at hret
    case h_2 => exact hret.elim
    rename_i j n ht
    obtain ⟨rfl, hj⟩ := hret
    obtain ⟨sv, hv, hrt⟩ := hs.tm t _ ht
    have hg : a'.tmps.getD t undef = sv := by simp [hv]
    have hres : (results fn a'.tmps).run P W' = .ok sv W' := by
      have hfun : results fn a'.tmps = (do let vs ← fn.results.mapM (resOf a'.tmps); pure (if h : vs.size = 1 then vs[0] else .tuple vs)) := by
        unfold results
        congr 1
      rw [hfun]
      have h1 : (resOf a'.tmps (.tmp t)).run P W' = .ok sv W' := by simp [resOf, hg]
      simp only [Sem.run_bind, Array.mapM_eq_mapM_toList, Sem.run_map, hrs, List.mapM_cons, List.mapM_nil, h1, Result.andThen_ok, Sem.run_pure]
      simp
    have hbelow : RowKit.Below W.heap.size W W' := ⟨hs.os, hs.tape, hs.output, hs.size, fun k hk => hs.keep k hk id⟩
    have hown : ∀ b, m' j = some b → W.heap.size ≤ b ∧ b < W'.heap.size := fun b hb => by
      obtain ⟨q1, q2⟩ := hs.own j _ b hj hb
      exact ⟨q2.elim id fun e => e.1.elim, q1⟩
    have hO : ∃ bo, (∀ b, bo = some b → W.heap.size ≤ b ∧ b < W'.heap.size) ∧ RC (enO W W' ok bo (.wr w)) (.r 0 w.length) sv ∧ RO (enO W W' ok bo (.wr w)) 0 (.wr w) := by
      refine ⟨m' j, hown, ⟨hrt.1, fun o' ho' hle' => ?_⟩, ?_⟩
      · obtain rfl : Ob.wr w = o' := by simpa [enO] using ho'
        obtain ⟨_, k2⟩ := hrt.2 _ hj (Nat.le_refl _)
        exact ⟨rfl, k2⟩
      · rcases hs.ob j _ hj with ⟨y1, y2⟩ | ⟨b', vs, e2, r1, r2, r3⟩
        · exact .inl ⟨y1, y2⟩
        · exact .inr ⟨b', vs, e2, r1, r2, r3⟩
    obtain ⟨bo, k1, k2, k3⟩ := hO
    have hfin : ∃ sv' bo, (Ending.returned sv) = .returned sv' ∧ RowKit.Below W.heap.size W W' ∧ (∀ b, bo = some b → W.heap.size ≤ b ∧ b < W'.heap.size) ∧
      RC (enO W W' ok bo (.wr w)) (.r 0 w.length) sv' ∧ RO (enO W W' ok bo (.wr w)) 0 (.wr w) :=
      ⟨sv, bo, rfl, hbelow, k1, k2, k3⟩
    rcases he with rfl | rfl
    · exact ⟨hs.df, _, hres, hfin⟩
    · exact ⟨hs.df, _, hres, hfin⟩
/-- A call whose one result is a row of words of this function's own from here on. -/
theorem DoL.callW {o : Oper} {f : FuncId} {x : Operand} {az : Array Operand} {ts : Array TypeId} {p : Prop} {args : List PV} {w : List Nat} (md : Bool) (lab lo : Nat) (hg : o.guard = none) (hop : o.op = .call { callee := .value x, args := az, argTypes := ts })
    (hx : opv st.tm x = some (.v (.c (.f f)))) (ha : argsOf st az.toList = some (p, args, false)) (hp : p) (hD : DoesW P G f args w) (hf : st.free lo = true) (hd : dstOk nt o.dst = true)
    (next : runs P G nt md ops Q lab l ⟨setv o.dst (some (.v (.c (.r lo w.length)))) st.tm, put lo (.wr w) st.ob⟩) : DoL P G nt ops (o :: l) st Q := by
  intro cx a W hn ⟨m, hr⟩ Q' hQ
  refine wpList_plain hg fun K hK => ?_
  unfold Oper.wp
  have hxv : a.eval x = .func (.func f) #[] #[] := hr.opv hx
  have hargs := argsOf_run hr ha hp false id
  have hok : ∀ b, okC cx m st W false b → b < W.heap.size := by
    rintro b (h | ⟨e, _⟩)
    · exact h.2.1
    · cases e
  have hexec : execOp a.eval o = callFunc f (az.toList.map a.eval).toArray := by
    have e1 : (az.toList.map a.eval).toArray = az.map a.eval := by apply Array.ext'; simp
    unfold execOp
    simp [hop, resolve, hxv, Deferred.ofValue, invoke, e1]
  obtain ⟨h1, h2⟩ := hD W (okC cx m st W false) _ hok hr.glOk hargs
  rw [hexec, h1]
  refine h2.mono ?_
  rintro e W' ⟨sv, bo, rfl, hb, hbo, q1, q2⟩
  have hro : RO (en cx (upd m lo bo) (put lo (.wr w) st.ob) W') lo (.wr w) := by
    rcases q2 with ⟨y1, y2⟩ | ⟨b', vs, e2, r1, r2, r3⟩
    · exact .inl ⟨y1, by show upd m lo bo lo = none; rw [upd_self]; exact y2⟩
    · exact .inr ⟨b', vs, e2, by show upd m lo bo lo = _; rw [upd_self]; exact r1, r2, r3⟩
  have hr2 := hr.adopt hb hf hbo hro
  have hsv : RC (en cx (upd m lo bo) (put lo (.wr w) st.ob) W') (.r lo w.length) sv := by
    refine ⟨q1.1, fun o' ho' hle => ?_⟩
    have ho2 : lk lo (put lo (.wr w) st.ob) = some o' := ho'
    rw [lk_put_self] at ho2; injection ho2 with ho2; subst ho2
    obtain ⟨k1, k2⟩ := q1.2 (.wr w) rfl (Nat.le_refl _)
    refine ⟨rfl, ?_⟩
    show (_ ∧ _ ∧ upd m lo bo lo = none) ∨ ∃ b cap e, upd m lo bo lo = some b ∧ _
    rw [upd_self]
    exact k2
  have hput := Rel.put (st := ⟨st.tm, put lo (.wr w) st.ob⟩) hr2 hn hd (x := .v (.c (.r lo w.length))) (v := sv) hsv
  exact hK _ _ (DoL.run next cx _ _ hn hput Q' hQ)
/-- The lesser of two words. -/
theorem DoL.minN {o : Oper} {x y : Operand} {ts : Array TypeId} {u v : Nat} (md : Bool) (lab : Nat) (hg : o.guard = none) (hop : o.op = .call { callee := .builtin .min, args := #[x, y], argTypes := ts }) (hx : opv st.tm x = some (.v (.c (.n u)))) (hy : opv st.tm y = some (.v (.c (.n v)))) (hd : dstOk nt o.dst = true)
    (next : runs P G nt md ops Q lab l ⟨setv o.dst (some (.v (.c (.n (min u v))))) st.tm, st.ob⟩) : DoL P G nt ops (o :: l) st Q := by
  intro cx a W hn ⟨m, hr⟩ Q' hQ
  refine wpList_plain hg fun K hK => ?_
  unfold Oper.wp
  have hxv : a.eval x = .int .u64 u := rt_n (hr.opv hx)
  have hyv : a.eval y = .int .u64 v := rt_n (hr.opv hy)
  have hm : (Builtin.min2 (.int .u64 u) (.int .u64 v)).run P W = .ok (.int .u64 ((min u v : Nat) : Int)) W := by
    by_cases h : u ≤ v
    · simp [Builtin.min2, Nat.min_eq_left h]; omega
    · simp [Builtin.min2, Nat.min_eq_right (Nat.le_of_lt (Nat.lt_of_not_le h))]; omega
  have hexec : (execOp a.eval o).run P W = .ok (.value (.int .u64 ((min u v : Nat) : Int))) W := by
    simp [execOp, hop, hxv, hyv, resolve, invoke, builtin, Builtin.min_, hm]
  rw [hexec]
  exact hK _ _ (DoL.run next cx _ _ hn (Rel.put hr hn hd (x := .v (.c (.n (min u v)))) (show _ = _ from rfl)) Q' hQ)
end
end Go.Proofs.YthpkhmbjmnhmoaaGreatDoor
/- Division by the schoolbook: what its loops hold. No condition. -/
namespace Go.Proofs.YthpkhmbjmnhmoaaGreatDoor
set_option linter.unusedVariables false
set_option linter.unusedSimpArgs false
set_option maxHeartbeats 2000000
/-- The digits from i on, below i + k. -/
theorem dg_part {A L i k : Nat} (h : i + k ≤ L) : ((dg A L).drop i).take k = dg (hgh A i) k := by
  refine dg_ext (by rw [List.length_take, List.length_drop, dg_len]; omega) fun t ht => ?_
  rw [List.getElem?_take, if_pos ht, List.getElem?_drop, dg_dig (by omega)]
  unfold dig hgh
  rw [Nat.pow_add, Nat.div_div_eq_div_mul]
theorem hgh_dig (A i t : Nat) : dig (hgh A i) t = dig A (i + t) := by
  unfold dig hgh
  rw [Nat.pow_add, Nat.div_div_eq_div_mul]
theorem hgh_hgh (A i t : Nat) : hgh (hgh A i) t = hgh A (i + t) := by
  unfold hgh
  rw [Nat.pow_add, Nat.div_div_eq_div_mul]
/-- The estimate is not too small. -/
theorem guess_ge {X b n q : Nat} (hn : 0 < n) (hX : X < 4294967296 ^ (n + 1)) (hb : b < 4294967296 ^ n) (hd : dig b (n - 1) ≠ 0) (hq : q * b ≤ X) (hq1 : q ≤ 4294967295) : dig X n * 4294967296 + dig X (n - 1) = hgh X (n - 1) ∧ q ≤ min ((dig X n * 4294967296 + dig X (n - 1)) / dig b (n - 1)) 4294967295 := by
  obtain ⟨m, rfl⟩ : ∃ m, n = m + 1 := ⟨n - 1, by omega⟩
  simp only [Nat.add_sub_cancel] at *
  have h0 : hgh X (m + 1 + 1) = 0 := hi_none hX (Nat.le_refl _)
  have h1 := hi_step X (m + 1)
  have h2 := hi_step X m
  have e : dig X (m + 1) * 4294967296 + dig X m = hgh X m := by rw [h2, h1, h0]; omega
  refine ⟨e, ?_⟩
  rw [e]
  refine Nat.le_min.2 ⟨?_, hq1⟩
  rw [Nat.le_div_iff_mul_le (by omega)]
  unfold hgh
  rw [Nat.le_div_iff_mul_le (Hpos m), Nat.mul_assoc]
  refine Nat.le_trans (Nat.mul_le_mul_left q ?_) hq
  rw [dig_top hb]
  exact Nat.div_mul_le_self _ _
/-- The rest of a part, written k digits far. -/
def cpy (A d i k : Nat) : Nat := A % 4294967296 ^ i + d % 4294967296 ^ k * 4294967296 ^ i + hgh A (i + k) * 4294967296 ^ (i + k)
theorem cpy_zero (A d i : Nat) : cpy A d i 0 = A := by
  unfold cpy hgh
  rw [Nat.pow_zero, Nat.mod_one, Nat.zero_mul, Nat.add_zero, Nat.add_zero, Nat.mod_add_div']
theorem cpy_low (A d i k : Nat) : A % 4294967296 ^ i + d % 4294967296 ^ k * 4294967296 ^ i < 4294967296 ^ (i + k) := by
  have h1 := Nat.mod_lt A (Hpos i)
  have h2 := Nat.mod_lt d (Hpos k)
  rw [Nat.pow_add, Nat.mul_comm (4294967296 ^ i)]
  have h3 : (d % 4294967296 ^ k + 1) * 4294967296 ^ i ≤ 4294967296 ^ k * 4294967296 ^ i := Nat.mul_le_mul_right _ h2
  rw [Nat.add_mul] at h3
  omega
theorem cpy_dig (A d i k : Nat) : dig (cpy A d i k) (i + k) = dig A (i + k) := by
  have h := cpy_low A d i k
  unfold dig cpy hgh
  rw [Nat.add_mul_div_right _ _ (Hpos _), Nat.div_eq_of_lt h, Nat.zero_add]
theorem cpy_step {A d i k L : Nat} (h : i + k < L) : (dg (cpy A d i k) L).set (i + k) (dig d k) = dg (cpy A d i (k + 1)) L := by
  obtain ⟨Q', e1, e2, _⟩ := @dg_set (cpy A d i k) L (i + k) (dig d k) h (dig_lt _ _)
  rw [e1]
  congr 1
  rw [cpy_dig] at e2
  have e3 := hi_step A (i + k)
  have e4 := low_step d k
  unfold cpy at e2 ⊢
  rw [e3] at e2
  rw [e4]
  rw [show i + (k + 1) = i + k + 1 by omega]
  have e5 : dig d k * 4294967296 ^ (i + k) = dig d k * 4294967296 ^ k * 4294967296 ^ i := by rw [Nat.pow_add]; ac_rfl
  rw [e5] at e2
  have e6 : 4294967296 ^ (i + k + 1) = 4294967296 * 4294967296 ^ (i + k) := by rw [Nat.pow_succ, Nat.mul_comm]
  rw [e6, Nat.add_mul]
  rw [Nat.add_mul] at e2
  have e7 : hgh A (i + k + 1) * (4294967296 * 4294967296 ^ (i + k)) = hgh A (i + k + 1) * 4294967296 * 4294967296 ^ (i + k) := by rw [Nat.mul_assoc]
  rw [e7]
  omega
theorem cpy_end {A d i n : Nat} (hd : d < 4294967296 ^ n) (hh : hgh A (i + n) = 0) : cpy A d i n = A % 4294967296 ^ i + d * 4294967296 ^ i := by
  unfold cpy
  rw [hh, Nat.zero_mul, Nat.add_zero, Nat.mod_eq_of_lt hd]
/-- What holds before the digit below c of the quotient is found. -/
structure DivI (A0 b L c A Q : Nat) : Prop where
  lt : A < 4294967296 ^ L
  top : hgh A c < b
  eq : A + b * Q = A0
  low : Q % 4294967296 ^ c = 0
theorem DivI.start {A0 b L n : Nat} (h : A0 < 4294967296 ^ (L - 1)) (hn : 0 < n) (hL : 0 < L) (hb : 4294967296 ^ (n - 1) ≤ b) : DivI A0 b L (L - n) A0 0 := by
  refine ⟨Nat.lt_of_lt_of_le h (Nat.pow_le_pow_right (by decide) (by omega)), ?_, by simp, by simp⟩
  refine Nat.lt_of_lt_of_le ?_ hb
  unfold hgh
  rw [Nat.div_lt_iff_lt_mul (Hpos _), ← Nat.pow_add]
  exact Nat.lt_of_lt_of_le h (Nat.pow_le_pow_right (by decide) (by omega))
/-- The part that a digit of the quotient divides. -/
theorem DivI.part {A0 b L i A Q n : Nat} (h : DivI A0 b L (i + 1) A Q) (hn : 0 < n) (hb : b < 4294967296 ^ n) : hgh A i < b * 4294967296 ∧ hgh A i < 4294967296 ^ (n + 1) ∧ hgh A i / b ≤ 4294967295 ∧ hgh A i / b * b ≤ hgh A i ∧ hgh A (i + (n + 1)) = 0 := by
  have h1 := hi_step A i
  have h2 := dig_lt A i
  have h3 : hgh A i < b * 4294967296 := by
    have : (hgh A (i + 1) + 1) * 4294967296 ≤ b * 4294967296 := Nat.mul_le_mul_right _ h.top
    omega
  have h4 : hgh A i < 4294967296 ^ (n + 1) := by
    refine Nat.lt_of_lt_of_le h3 ?_
    rw [Nat.pow_succ]
    exact Nat.mul_le_mul_right _ (Nat.le_of_lt hb)
  refine ⟨h3, h4, ?_, Nat.div_mul_le_self _ _, ?_⟩
  · have : hgh A i / b < 4294967296 := (Nat.div_lt_iff_lt_mul (Nat.lt_of_le_of_lt (Nat.zero_le _) h.top)).2 (by rw [Nat.mul_comm]; exact h3)
    omega
  · rw [← hgh_hgh]
    exact hi_none h4 (Nat.le_refl _)
theorem DivI.next {A0 b L i A Q n d : Nat} (h : DivI A0 b L (i + 1) A Q) (hn : 0 < n) (hb : b < 4294967296 ^ n) (hi : i + (n + 1) ≤ L) (hd : d + b * (hgh A i / b) = hgh A i) (hdb : d < b) :
    ∃ Q', (dg Q (L - n)).set i (hgh A i / b) = dg Q' (L - n) ∧ DivI A0 b L i (cpy A d i (n + 1)) Q' := by
  obtain ⟨p1, p2, p3, p4, p5⟩ := h.part hn hb
  obtain ⟨Q', e1, e2, _⟩ := @dg_set Q (L - n) i (hgh A i / b) (by omega) (by omega)
  have hdn : d < 4294967296 ^ (n + 1) := Nat.lt_trans (Nat.lt_trans hdb hb) (Nat.pow_lt_pow_right (by decide) (by omega))
  have hc := @cpy_end A d i (n + 1) hdn p5
  have hdi : dig Q i = 0 := by
    have := h.low
    rw [low_step] at this
    have h5 := Hpos i
    have h6 : dig Q i * 4294967296 ^ i = 0 := by omega
    rcases Nat.mul_eq_zero.1 h6 with h6 | h6
    · exact h6
    · omega
  have hql : Q % 4294967296 ^ i = 0 := by
    have := h.low
    rw [low_step] at this
    omega
  rw [hdi, Nat.zero_mul, Nat.add_zero] at e2
  refine ⟨Q', e1, ?_, ?_, ?_, ?_⟩
  · rw [hc]
    have h1 := Nat.mod_lt A (Hpos i)
    have h2 : (d + 1) * 4294967296 ^ i ≤ 4294967296 ^ n * 4294967296 ^ i := Nat.mul_le_mul_right _ (by omega)
    rw [← Nat.pow_add, Nat.add_mul] at h2
    have h3 : 4294967296 ^ (n + i) ≤ 4294967296 ^ L := Nat.pow_le_pow_right (by decide) (by omega)
    omega
  · rw [hc]
    unfold hgh
    rw [Nat.add_mul_div_right _ _ (Hpos i), Nat.div_eq_of_lt (Nat.mod_lt _ (Hpos i)), Nat.zero_add]
    exact hdb
  · rw [hc, e2, ← h.eq]
    have h1 : A = A % 4294967296 ^ i + hgh A i * 4294967296 ^ i := by unfold hgh; rw [Nat.mod_add_div']
    conv => rhs; rw [h1, ← hd]
    rw [Nat.mul_add, Nat.add_mul]
    have : b * (hgh A i / b * 4294967296 ^ i) = b * (hgh A i / b) * 4294967296 ^ i := by rw [Nat.mul_assoc]
    omega
  · rw [e2, Nat.add_mul_mod_self_right, hql]
theorem DivI.fin {A0 b L A Q : Nat} (h : DivI A0 b L 0 A Q) (hb : 0 < b) : Q = A0 / b ∧ A = A0 % b := by
  have h1 := h.top
  rw [hi_zero] at h1
  rw [← h.eq]
  rw [Nat.add_mul_div_left _ _ hb, Nat.add_mul_mod_self_left, Nat.div_eq_of_lt h1, Nat.mod_eq_of_lt h1]
  omega
theorem two_dig {a b : Nat} (ha : a < 4294967296) (hb : b < 4294967296) : a * 4294967296 < M64 ∧ a * 4294967296 + b < M64 := by
  unfold M64; omega
theorem dl_pow {n : Nat} (h : 0 < n) : 0 < dl n ∧ 4294967296 ^ (dl n - 1) ≤ n ∧ n < 4294967296 ^ dl n := by
  have h1 := @dl_lt n (dl n)
  have h2 := @dl_lt n (dl n - 1)
  have h0 : 0 < dl n := by
    have := @dl_lt n 0
    simp at this
    omega
  refine ⟨h0, ?_, h1.1 (Nat.le_refl _)⟩
  have : ¬ dl n ≤ dl n - 1 := by omega
  rw [h2] at this
  omega
end Go.Proofs.YthpkhmbjmnhmoaaGreatDoor
