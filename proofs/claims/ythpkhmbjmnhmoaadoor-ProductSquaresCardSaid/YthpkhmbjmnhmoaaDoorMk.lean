/- The product of two floats, by the program and by the reference. No condition. Sums of products, by the program. No condition. Sums of products, by the reference. No condition. The program awake: products. No condition. The law ProductMuls. No condition. The law ProductFused. No condition. The law ProductDots. No condition. The law ProductOrder. No condition. A shift of a signed number to the right. No condition. Powers. No condition. The law ProductPowers. No condition. -/
import Derived.Test.YthpkhmbjmnhmoaaDoorMj
import Derived.Test.YthpkhmbjmnhmoaaDoorMh
import Derived.Test.YthpkhmbjmnhmoaaDoorMi
/- The product of two floats, by the program and by the reference. No condition. -/
namespace Go.Proofs.YthpkhmbjmnhmoaaDoor
set_option linter.unusedVariables false
set_option linter.unusedSimpArgs false
set_option maxHeartbeats 4000000
set_option maxRecDepth 10000
/-- What Mul answers. -/
def mulP (f p r : Int) (x y : Fla) : Flt × Int × Int :=
  if argsE f p r false [x, y] = 0 then ((roundT (timesP (holdsP f p x.flt).1 (holdsP f p y.flt).1) f p r).1, (roundT (timesP (holdsP f p x.flt).1 (holdsP f p y.flt).1) f p r).2, 0) else (⟨0, false, 0, 0⟩, 0, argsE f p r false [x, y])
theorem held_cf {f p : Int} {x : Flt} (h : (holdsP f p x).2 = true) : Cf (holdsP f p x).1 := by
  rw [← (held_rcanon h).1]
  exact Cf.of (held_rcanon h).2
/-- Bounds of a float that is held. -/
theorem held_small {f p : Int} (hf : fmOk f p = true) {x : Flt} (h : (holdsP f p x).2 = true) : -100000 ≤ (holdsP f p x).1.e ∧ (holdsP f p x).1.e ≤ 100000 ∧ bl (holdsP f p x).1.v ≤ 256 ∧ ((holdsP f p x).1.k = 1 → (holdsP f p x).1.e + bl (holdsP f p x).1.v ≤ 16384) := by
  obtain ⟨b1, b2, b3, b4⟩ := fmOk_spec hf
  obtain ⟨b5, b6⟩ := gOfE_le b1 b2
  have hc := held_cf h
  unfold holdsP at h hc ⊢
  split at h
  · rename_i hh
    rw [if_pos hh] at hc ⊢
    have hk : (canon x).1.k ≠ 1 := by
      rcases hh with hh | hh
      · rw [h] at hh; cases hh
      · exact hh
    have hfx := hc.fix
    unfold rcanon at hfx
    rw [if_neg hk] at hfx
    have he : (canon x).1.e = 0 := by rw [← hfx]
    have hv : (canon x).1.v = 0 := by rw [← hfx]
    rw [he, hv, bl_zero]
    exact ⟨by omega, by omega, by omega, fun h => absurd h hk⟩
  · rename_i hh
    rw [if_neg hh] at hc ⊢
    simp only [Bool.and_eq_true, decide_eq_true_eq] at h
    simp only []
    simp only [not_or, Decidable.not_not] at hh
    have := bl_pos (show 0 < (canon x).1.v by have := hc.pos hh.2; simp only [] at this; omega)
    omega
theorem timesP_ok {x y : Flt} (hx : -100000 ≤ x.e ∧ x.e ≤ 100000 ∧ bl x.v ≤ 256) (hy : -100000 ≤ y.e ∧ y.e ≤ 100000 ∧ bl y.v ≤ 256) : (timesP x y).2.2.Ok ∧ -200000 ≤ (timesP x y).2.2.e ∧ (timesP x y).2.2.e + bl (timesP x y).2.2.v ≤ 300000 := by
  have hm := bl_mul_le x.v y.v
  have key : -200000 ≤ (timesP x y).2.2.e ∧ (timesP x y).2.2.e + bl (timesP x y).2.2.v ≤ 300000 := by
    unfold timesP
    split
    · simp [bl_zero]
    · split
      · simp [bl_zero]
      · split
        · simp only []; omega
        · simp [bl_zero]
  exact ⟨⟨by omega, by omega⟩, key⟩
theorem PMul_does {f p r : Int} {x y : Fla} (hx : x.Ok) (hy : y.Ok) : Does Tryd.prog Gv 10 [Fm f p, .c (.i .i64 r), Fl x.k x.n x.e x.m, Fl y.k y.n y.e y.m] (Res (mulP f p r x y)) := by
  generalize hz : mulP f p r x y = z
  unfold mulP at hz
  have hl : [x, y].length < 1099511627776 := by simp
  have ho : ∀ u ∈ [x, y], u.Ok := by simp [hx, hy]
  by_cases he : argsE f p r false [x, y] = 0
  · rw [if_pos he] at hz
    have hA : DoesO Tryd.prog Gv 25 [Fm f p, .c (.i .i64 r), .c (.b false), .s false [x.cs, y.cs]] 4 [(holdsP f p x.flt).1.cs, (holdsP f p y.flt).1.cs] [.c (.i .i64 0)] := Args_own hl ho he
    obtain ⟨h1, h2, h3, h4, h5, h6⟩ := argsE_zero he
    have sx := held_small h5 (x := x.flt) (by simpa using List.all_eq_true.1 h6 x (by simp))
    have sy := held_small h5 (x := y.flt) (by simpa using List.all_eq_true.1 h6 y (by simp))
    generalize (holdsP f p x.flt).1 = u at *
    generalize (holdsP f p y.flt).1 = v at *
    have hT := @times_does Gv u v (by have := nat_len_bl u.v; omega) (by have := nat_len_bl v.v; omega) (by omega) (by omega)
    have hok := timesP_ok (x := u) (y := v) ⟨sx.1, sx.2.1, sx.2.2.1⟩ ⟨sy.1, sy.2.1, sy.2.2.1⟩
    have hR := @round_does f p r h5 h2 h3 (timesP u v) (fun _ => hok.1)
    generalize timesP u v = t at *
    refine Does.of (nt := 43) Tryd.func10 rfl rfl rfl (by simp) ?_
    simp only [argTm, PV.ext, Ce.ext]
    refine Do.seqk fun _ k1_ => ?_
    refine Do.region [1,4,6,7,8] true ?_
    simp [go_sem]
    apply k1_; clear k1_
    refine Do.seqk fun _ k2_ => ?_
    refine Do.region [1,4,8,11,12] true ?_
    simp [go_sem]
    repeat (refine And.intro (by first | omega | (intros; omega) | (intros; exact And.intro (by assumption) (by omega)) | grind) ?_)
    refine DoL.sealS true 105 104 rfl ?_
    simp [go_sem]
    refine DoL.callO true 106 3000 rfl rfl rfl rfl (by first | exact trivial | omega | (simp; done) | (simp; omega)) (hA) rfl rfl rfl ?_
    simp [go_sem]
    apply k2_; clear k2_
    refine Do.seqk fun _ k3_ => ?_
    refine Do.seqk fun _ k4_ => ?_
    refine Do.region [1,4,8,11,12,25] true ?_
    simp [go_sem]
    apply k4_; clear k4_
    refine Do.cond [1,4,8,11,12] rfl (fun h => ?_) (fun h => ?_) <;> simp [go_sem] at h ⊢
    refine Do.skip ?_
    simp [go_sem]
    apply k3_; clear k3_
    refine Do.seqk fun _ k5_ => ?_
    refine Do.sealS 3000 rfl ?_
    simp [go_sem]
    refine Do.draw [8,13,14] true (by kernel_rfl) ?_
    simp [go_sem]
    repeat (refine And.intro (by first | omega | (intros; omega) | (intros; exact And.intro (by assumption) (by omega)) | kernel_rfl | grind) ?_)
    refine DoLD.call true 407 rfl rfl rfl rfl (by first | exact trivial | omega | (simp; done) | (simp; omega)) (hT) rfl (by first | exact .inl rfl | exact .inr rfl) rfl ?_
    simp [go_sem]
    repeat (refine And.intro (by first | omega | (intros; omega) | (intros; exact And.intro (by assumption) (by omega)) | kernel_rfl | grind) ?_)
    refine DoLD.call true 410 rfl rfl rfl rfl (by first | exact trivial | omega | (simp; done) | (simp; omega)) (hR) rfl (by first | exact .inl rfl | exact .inr rfl) rfl ?_
    simp [go_sem]
    repeat (refine And.intro (by first | omega | (intros; omega) | (intros; exact And.intro (by assumption) (by omega)) | kernel_rfl | grind) ?_)
    try (refine And.intro (by kernel_rfl) ?_)
    apply k5_; clear k5_
    refine Do.seqk fun _ k6_ => ?_
    refine Do.region [8,9,10] true ?_
    simp [go_sem]
    repeat (refine And.intro (by first | omega | (intros; omega) | (intros; exact And.intro (by assumption) (by omega)) | grind) ?_)
    apply k6_; clear k6_
    refine Do.ret ?_
    simp [endQ, rets, ret1, go_sem]
    repeat (refine And.intro (by first | omega | (intros; omega) | (intros; exact And.intro (by assumption) (by omega)) | grind) ?_)
    subst hz
    exact TLe.refl _
  · rw [if_neg he] at hz
    have hA : Does Tryd.prog Gv 25 [Fm f p, .c (.i .i64 r), .c (.b false), .s false [x.cs, y.cs]] (.t [.c .z, .c (.i .i64 (argsE f p r false [x, y]))]) := Args_err hl ho he
    refine Does.of (nt := 43) Tryd.func10 rfl rfl rfl (by simp) ?_
    simp only [argTm, PV.ext, Ce.ext]
    refine Do.seqk fun _ k1_ => ?_
    refine Do.region [1,4,6,7,8] true ?_
    simp [go_sem]
    apply k1_; clear k1_
    refine Do.seqk fun _ k2_ => ?_
    refine Do.region [1,4,8,11,12] true ?_
    simp [go_sem]
    repeat (refine And.intro (by first | omega | (intros; omega) | (intros; exact And.intro (by assumption) (by omega)) | grind) ?_)
    refine DoL.sealS true 105 104 rfl ?_
    simp [go_sem]
    refine DoL.call true 106 rfl rfl rfl rfl (by first | exact trivial | omega | (simp; done) | (simp; omega)) (hA) rfl (by first | exact .inl rfl | exact .inr rfl) rfl ?_
    simp [go_sem]
    apply k2_; clear k2_
    refine Do.seqk fun _ k3_ => ?_
    refine Do.seqk fun _ k4_ => ?_
    refine Do.region [1,4,8,11,12,25] true ?_
    simp [go_sem]
    apply k4_; clear k4_
    refine Do.cond [1,4,8,11,12] rfl (fun h => ?_) (fun h => ?_) <;> simp [go_sem] at h ⊢
    · refine Do.seqk fun _ k5_ => ?_
      refine Do.region [8,9,10] true ?_
      simp [go_sem]
      repeat (refine And.intro (by first | omega | (intros; omega) | (intros; exact And.intro (by assumption) (by omega)) | grind) ?_)
      apply k5_; clear k5_
      refine Do.ret ?_
      simp [endQ, rets, ret1, go_sem]
      repeat (refine And.intro (by first | omega | (intros; omega) | (intros; exact And.intro (by assumption) (by omega)) | grind) ?_)
      subst hz
      exact ret_res (ret_z rfl) rfl
    · exact absurd h he
end Go.Proofs.YthpkhmbjmnhmoaaDoor
/- Sums of products, by the program. No condition. -/
namespace Go.Proofs.YthpkhmbjmnhmoaaDoor
set_option linter.unusedVariables false
set_option linter.unusedSimpArgs false
set_option maxHeartbeats 4000000
set_option maxRecDepth 10000
theorem dot_bound {ts : List (Bool × Int × Nu)} (h : ∀ t ∈ ts, -200000 ≤ t.2.2.e ∧ t.2.2.e + bl t.2.2.v ≤ 300000) : ∀ i, -4194304 ≤ (dotG (ts.take i)).sum.e ∧ (dotG (ts.take i)).sum.e + bl (dotG (ts.take i)).sum.v ≤ 300000 + min i ts.length := by
  intro i
  induction i with
  | zero => simp [dotG, Ga.zero, bl_zero]
  | succ i ih =>
    cases hx : ts[i]? with
    | none =>
      have hl : ts.length ≤ i := List.getElem?_eq_none_iff.1 hx
      rw [List.take_of_length_le (by omega)] at ih ⊢
      omega
    | some t =>
      have hi : i < ts.length := (List.getElem?_eq_some_iff.1 hx).1
      rw [dotG_take hx]
      generalize dotG (ts.take i) = g at *
      have hk := h t (List.mem_of_getElem? hx)
      unfold dotStep Ga.put
      split
      · simp only []; omega
      · split
        · simp only []; omega
        · split
          · have := Nu.plus_ok (a := g.sum) (b := t.2.2) (c := 300000 + min i ts.length) ih (by omega)
            simp only []; omega
          · simp only []; omega
/-- The error of a list of products. -/
def dotE (f p r : Int) (xs ys : List Fla) (z : Fla) : Int := argsE f p r ((xs.length : Int) != ys.length || decide ((1000 : Int) < xs.length)) (xs ++ ys ++ [z])
/-- What Dot answers. -/
def dotA (f p r : Int) (xs ys : List Fla) (z : Fla) : Flt × Int × Int :=
  if dotE f p r xs ys z = 0 then ((dotP f p r (tsOf ((heldL f p xs).zip (heldL f p ys))) (holdsP f p z.flt).1).1, (dotP f p r (tsOf ((heldL f p xs).zip (heldL f p ys))) (holdsP f p z.flt).1).2, 0) else (⟨0, false, 0, 0⟩, 0, dotE f p r xs ys z)
theorem PDot_does {f p r : Int} {xs ys : List Fla} {z : Fla} (hxl : xs.length < 1000000) (hyl : ys.length < 1000000) (hx : ∀ x ∈ xs, x.Ok) (hy : ∀ x ∈ ys, x.Ok) (hz : z.Ok) : Does Tryd.prog Gv 16 [Fm f p, .c (.i .i64 r), Rows xs, Rows ys, Fl z.k z.n z.e z.m] (Res (dotA f p r xs ys z)) := by
  generalize hw : dotA f p r xs ys z = w
  unfold dotA at hw
  have hl : (xs ++ ys ++ [z]).length < 1099511627776 := by simp; omega
  have ho : ∀ u ∈ xs ++ ys ++ [z], u.Ok := by
    intro u hu
    simp only [List.mem_append, List.mem_singleton] at hu
    rcases hu with (hu | hu) | rfl
    · exact hx u hu
    · exact hy u hu
    · exact hz
  by_cases he : dotE f p r xs ys z = 0
  · rw [if_pos he] at hw
    have hA := Args_own hl ho he
    obtain ⟨h1, h2, h3, h4, h5, h6⟩ := argsE_zero he
    rw [show heldL f p (xs ++ ys ++ [z]) = heldL f p xs ++ heldL f p ys ++ [(holdsP f p z.flt).1] by simp [heldL]] at hA
    rw [show Rows (xs ++ ys ++ [z]) = .s false (xs.map Fla.cs ++ (ys.map Fla.cs ++ [z.cs])) by simp [Rows]] at hA
    have hlen : xs.length = ys.length ∧ xs.length ≤ 1000 := by simp at h4; omega
    rw [h4] at hA
    have d1 : ¬ (1000 : Int) < ys.length := by omega
    have hux : (heldL f p xs).length = xs.length := by simp [heldL]
    have huy : (heldL f p ys).length = ys.length := by simp [heldL]
    have hall : ∀ x ∈ xs ++ ys ++ [z], (holdsP f p x.flt).2 = true := fun x hx => by simpa using List.all_eq_true.1 h6 x hx
    have sx : ∀ u ∈ heldL f p xs, -100000 ≤ u.e ∧ u.e ≤ 100000 ∧ bl u.v ≤ 256 := fun u hu => by
      obtain ⟨x, hx, rfl⟩ := List.mem_map.1 hu
      have := held_small h5 (hall x (by simp [hx]))
      exact ⟨this.1, this.2.1, this.2.2.1⟩
    have sy : ∀ u ∈ heldL f p ys, -100000 ≤ u.e ∧ u.e ≤ 100000 ∧ bl u.v ≤ 256 := fun u hu => by
      obtain ⟨x, hx, rfl⟩ := List.mem_map.1 hu
      have := held_small h5 (hall x (by simp [hx]))
      exact ⟨this.1, this.2.1, this.2.2.1⟩
    have sz := held_small h5 (hall z (by simp))
    generalize (holdsP f p z.flt).1 = c at *
    generalize heldL f p xs = as_ at *
    generalize heldL f p ys = bs at *
    have hts : ∀ t ∈ tsOf (as_.zip bs), -200000 ≤ t.2.2.e ∧ t.2.2.e + bl t.2.2.v ≤ 300000 := fun t ht => by
      obtain ⟨q, hq, rfl⟩ := List.mem_map.1 ht
      obtain ⟨q1, q2⟩ := q
      exact (timesP_ok (sx _ (List.of_mem_zip hq).1) (sy _ (List.of_mem_zip hq).2)).2
    have hbd := dot_bound hts
    have hget : ∀ (i : Nat) (a b : Flt), as_[i]? = some a → bs[i]? = some b → (tsOf (as_.zip bs))[i]? = some (timesP a b) := fun i a b h1 h2 => by
      have : (as_.zip bs)[i]? = some (a, b) := List.getElem?_zip_eq_some.2 ⟨h1, h2⟩
      rw [tsOf, List.getElem?_map, this]; rfl
    have htl : (tsOf (as_.zip bs)).length = ys.length := by simp [tsOf]; omega
    have hwz : dotP f p r (tsOf (as_.zip bs)) c = ((dotG (tsOf (as_.zip bs))).put c.k ⟨c.n, c.v, c.e⟩).float f p r := rfl
    rw [hwz] at hw
    generalize tsOf (as_.zip bs) = ts at *
    have hn : xs.length = ys.length := hlen.1
    have hrow1 : ∀ (i : Nat) (a : Flt), as_[i]? = some a → (as_.map Flt.cs ++ bs.map Flt.cs ++ [c.cs])[i]? = some a.cs := fun i a h => by
      have hi := (List.getElem?_eq_some_iff.1 h).1
      rw [List.append_assoc, List.getElem?_append_left (by simpa using hi)]; simp [h]
    have hrow2 : ∀ (i : Nat) (a : Flt), bs[i]? = some a → (as_.map Flt.cs ++ bs.map Flt.cs ++ [c.cs])[ys.length + i]? = some a.cs := fun i a h => by
      have hi := (List.getElem?_eq_some_iff.1 h).1
      rw [List.append_assoc, List.getElem?_append_right (by simp; omega), List.getElem?_append_left (by simp; omega)]
      simp only [List.length_map]
      rw [show ys.length + i - as_.length = i by omega]; simp [h]
    have hrow3 : (as_.map Flt.cs ++ bs.map Flt.cs ++ [c.cs])[ys.length + ys.length]? = some c.cs := by
      rw [List.getElem?_append_right (by simp; omega)]
      simp only [List.length_append, List.length_map]
      rw [show ys.length + ys.length - (as_.length + bs.length) = 0 by omega]; rfl
    have hrl : (as_.map Flt.cs ++ bs.map Flt.cs ++ [c.cs]).length = ys.length + ys.length + 1 := by simp; omega
    rw [show (as_ ++ bs ++ [c]).map Flt.cs = as_.map Flt.cs ++ bs.map Flt.cs ++ [c.cs] by simp] at hA
    generalize as_.map Flt.cs ++ bs.map Flt.cs ++ [c.cs] = rows at *
    refine Does.of (nt := 108) Tryd.func16 rfl rfl rfl (by simp) ?_
    simp only [argTm, PV.ext, Ce.ext]
    refine Do.seqk fun _ k1_ => ?_
    refine Do.region [1,2,3,5,9,10] true ?_
    simp [go_sem, hn, d1]
    apply k1_; clear k1_
    refine Do.seqk fun _ k2_ => ?_
    refine Do.draw [1,2,3,5,9,10,13] true (by kernel_rfl) ?_
    simp [go_sem, hn, d1]
    repeat (refine And.intro (by first | omega | (intros; omega) | (intros; exact And.intro (by assumption) (by omega)) | kernel_rfl | grind) ?_)
    try (refine And.intro (by kernel_rfl) ?_)
    apply k2_; clear k2_
    refine Do.seqk fun _ k3_ => ?_
    refine Do.region [1,2,5,9,10,14,15] true ?_
    simp [go_sem, hn, d1]
    repeat (refine And.intro (by first | omega | (intros; omega) | (intros; exact And.intro (by assumption) (by omega)) | grind) ?_)
    refine DoL.sealS true 213 100 rfl ?_
    simp [go_sem, hn, d1]
    refine DoL.callO true 214 3000 rfl rfl rfl rfl (by first | exact trivial | omega | (simp; done) | (simp; omega)) (hA) rfl rfl rfl ?_
    simp [go_sem, hn, d1]
    apply k3_; clear k3_
    refine Do.seqk fun _ k4_ => ?_
    refine Do.seqk fun _ k5_ => ?_
    refine Do.region [1,2,5,9,10,14,15,47] true ?_
    simp [go_sem, hn, d1]
    apply k5_; clear k5_
    refine Do.cond [1,2,5,9,10,14,15] rfl (fun h => ?_) (fun h => ?_) <;> simp [go_sem, hn, d1] at h ⊢
    refine Do.skip ?_
    simp [go_sem]
    apply k4_; clear k4_
    refine Do.seqk fun _ k6_ => ?_
    refine Do.region [1,2,5,9,10,14,16] true ?_
    simp [go_sem, hn, d1]
    apply k6_; clear k6_
    refine Do.seqk fun _ k7_ => ?_
    refine Do.seqk fun _ k8_ => ?_
    refine Do.sealS 3000 rfl ?_
    simp [go_sem]
    refine Do.weakB 501 Ga.zero.cs rfl (.cons (PLe.refl _) (.cons (ret_z rfl) (.cons (PLe.refl _) (.cons (PLe.refl _) (.cons (PLe.refl _) (.cons (PLe.refl _) (.cons (PLe.refl _) (.cons (PLe.refl _) (.cons (PLe.refl _) (.cons (PLe.refl _) .nil)))))))))) ?_
    simp [go_sem, put]
    refine Do.region [1,2,5,9,10,14,16,53,54] true ?_
    simp [go_sem, hn, d1]
    repeat (refine And.intro (by first | omega | (intros; omega) | (intros; exact And.intro (by assumption) (by omega)) | grind) ?_)
    apply k8_; clear k8_
    refine Do.block ?_
    refine Do.loopF [1,2,5,9,10,14,16,53,54] (fun (i : Nat) => [(54, .int .i64 i)]) (fun (i : Nat) => [(501, .box (dotG (ts.take i)).cs)]) (fun (i : Nat) => i ≤ ys.length) (fun (i : Nat) => ys.length - i) (0) (fun _ => by first | (simp [go_sem, mixS]; done) | (simp [go_sem, mixS]; rfl)) (St.le_of (by first | rfl | simp [keep]) (by first | rfl | simp [keep])) (Nat.zero_le _) ?_
    intro i hi
    refine Do.seqk fun _ k9_ => ?_
    refine Do.region [1,2,5,9,10,14,16,53,54,55] true ?_
    simp [go_sem, hn, d1]
    apply k9_; clear k9_
    refine Do.seqk fun _ k10_ => ?_
    refine Do.cond [1,2,5,9,10,14,16,53,54] rfl (fun h2 => ?_) (fun h2 => ?_) <;> simp [go_sem, hn, d1] at h2 ⊢
    · obtain ⟨a, ha⟩ : ∃ a, as_[i]? = some a := ⟨_, List.getElem?_eq_getElem (by omega)⟩
      obtain ⟨b, hb⟩ : ∃ b, bs[i]? = some b := ⟨_, List.getElem?_eq_getElem (by omega)⟩
      have r1 := hrow1 i a ha
      have r2 := hrow2 i b hb
      have rt := hget i a b ha hb
      have ka := sx a (List.mem_of_getElem? ha)
      have kb := sy b (List.mem_of_getElem? hb)
      have hT := @times_does Gv a b (by have := nat_len_bl a.v; omega) (by have := nat_len_bl b.v; omega) (by omega) (by omega)
      have ht2 := hts _ (List.mem_of_getElem? rt)
      have hst := dotG_take rt
      have hgb := hbd i
      generalize timesP a b = t at *
      generalize dotG (ts.take i) = g at *
      have hP := @Put_does ({ g with inv := g.inv || t.1 } : Ga) t.2.1 t.2.2 (fun _ => ⟨⟨hgb.1, by simp only []; omega⟩, ⟨by omega, by omega⟩⟩)
      rw [show ({ g with inv := g.inv || t.1 } : Ga).put t.2.1 t.2.2 = dotStep g t from rfl, ← hst] at hP
      refine Do.skip ?_
      simp [go_sem]
      apply k10_; clear k10_
      refine Do.seqk fun _ k11_ => ?_
      refine Do.block ?_
      refine Do.seqk fun _ k12_ => ?_
      refine Do.region [1,2,5,9,10,14,16,17,53,54] true ?_
      simp [go_sem, hn, r1, r2, hrl, show ((ys.length : Int) + i).toNat = ys.length + i by omega]
      apply k12_; clear k12_
      refine Do.seqk fun _ k13_ => ?_
      refine Do.draw [1,2,5,9,10,14,16,18,53,54] true (by kernel_rfl) ?_
      simp [go_sem, hn, r1, r2, hrl, show ((ys.length : Int) + i).toNat = ys.length + i by omega]
      repeat (refine And.intro (by first | omega | (intros; omega) | (intros; exact And.intro (by assumption) (by omega)) | kernel_rfl | grind) ?_)
      refine DoLD.call true 912 rfl rfl rfl rfl (by first | exact trivial | omega | (simp; done) | (simp; omega)) (hT) rfl (by first | exact .inl rfl | exact .inr rfl) rfl ?_
      simp [go_sem, hn, r1, r2, hrl, show ((ys.length : Int) + i).toNat = ys.length + i by omega]
      repeat (refine And.intro (by first | omega | (intros; omega) | (intros; exact And.intro (by assumption) (by omega)) | kernel_rfl | grind) ?_)
      try (refine And.intro (by kernel_rfl) ?_)
      apply k13_; clear k13_
      refine Do.seqk fun _ k14_ => ?_
      refine Do.region [1,2,5,9,10,14,16,18,53,54] true ?_
      simp [go_sem, hn, r1, r2, hrl, show ((ys.length : Int) + i).toNat = ys.length + i by omega]
      repeat (refine And.intro (by first | omega | (intros; omega) | (intros; exact And.intro (by assumption) (by omega)) | grind) ?_)
      apply k14_; clear k14_
      refine Do.region [1,2,5,9,10,14,16,53,54] true ?_
      simp [go_sem, hn, r1, r2, hrl, show ((ys.length : Int) + i).toNat = ys.length + i by omega]
      repeat (refine And.intro (by first | omega | (intros; omega) | (intros; exact And.intro (by assumption) (by omega)) | grind) ?_)
      refine DoL.callP2 true 1106 rfl rfl rfl rfl rfl rfl (by first | exact trivial | omega | (simp; done) | (simp; omega)) (hP) rfl rfl rfl ?_
      simp [go_sem, hn, r1, r2, hrl, show ((ys.length : Int) + i).toNat = ys.length + i by omega]
      apply k11_; clear k11_
      refine Do.region [1,2,5,9,10,14,16,53,54] true ?_
      simp [go_sem, hn, r1, r2, hrl, show ((ys.length : Int) + i).toNat = ys.length + i by omega]
      repeat (refine And.intro (by first | omega | (intros; omega) | (intros; exact And.intro (by assumption) (by omega)) | grind) ?_)
      refine ⟨i + 1, St.le_of (by first | rfl | simp [keep]) (by first | rfl | simp [keep]), by omega, by simp; omega⟩
    · obtain rfl : i = ys.length := by omega
      rw [List.take_of_length_le (by omega)]
      have hgb := hbd ts.length
      rw [List.take_length] at hgb
      generalize dotG ts = g at *
      have hP := @Put_does g c.k ⟨c.n, c.v, c.e⟩ (fun _ => ⟨⟨hgb.1, by omega⟩, ⟨by simp only []; omega, by simp only []; omega⟩⟩)
      have hgs : (g.put c.k ⟨c.n, c.v, c.e⟩).sum.Ok := by
        have h7 := @Nu.plus_ok g.sum ⟨c.n, c.v, c.e⟩ 400000 ⟨hgb.1, by omega⟩ ⟨by simp only []; omega, by simp only []; omega⟩
        unfold Ga.put
        split
        · exact ⟨hgb.1, by simp only []; omega⟩
        · split
          · exact ⟨hgb.1, by simp only []; omega⟩
          · split
            · exact ⟨h7.1, by simp only []; omega⟩
            · exact ⟨hgb.1, by simp only []; omega⟩
      have hF := @GFloat_does f p r h5 (by assumption) h3 _ hgs
      generalize g.put c.k ⟨c.n, c.v, c.e⟩ = g2 at *
      have hrow3b : ∀ h, rows[ys.length + ys.length]'h = c.cs := fun h => by
        rw [List.getElem?_eq_getElem h] at hrow3; exact Option.some.inj hrow3
      refine Do.exit ?_
      simp [go_sem]
      apply k7_; clear k7_
      refine Do.seqk fun _ k15_ => ?_
      refine Do.region [1,5,9,10,16] true ?_
      simp [go_sem, hn, hrow3, hrow3b, hrl, show ((ys.length : Int) + ys.length).toNat = ys.length + ys.length by omega]
      repeat (refine And.intro (by first | omega | (intros; omega) | (intros; exact And.intro (by assumption) (by omega)) | grind) ?_)
      apply k15_; clear k15_
      refine Do.seqk fun _ k16_ => ?_
      refine Do.draw [1,5,10,16] true (by kernel_rfl) ?_
      simp [go_sem, hn, hrow3, hrow3b, hrl, show ((ys.length : Int) + ys.length).toNat = ys.length + ys.length by omega]
      repeat (refine And.intro (by first | omega | (intros; omega) | (intros; exact And.intro (by assumption) (by omega)) | kernel_rfl | grind) ?_)
      refine DoLD.call true 1405 rfl rfl rfl rfl (by first | exact trivial | omega | (simp; done) | (simp; omega)) (Of_does) rfl (by first | exact .inl rfl | exact .inr rfl) rfl ?_
      simp [go_sem, hn, hrow3, hrow3b, hrl, show ((ys.length : Int) + ys.length).toNat = ys.length + ys.length by omega]
      refine DoLD.callP2 true 1406 rfl rfl rfl rfl rfl rfl (by first | exact trivial | omega | (simp; done) | (simp; omega)) (hP) rfl rfl rfl ?_
      simp [go_sem, hn, hrow3, hrow3b, hrl, show ((ys.length : Int) + ys.length).toNat = ys.length + ys.length by omega]
      try (refine And.intro (by kernel_rfl) ?_)
      apply k16_; clear k16_
      refine Do.seqk fun _ k17_ => ?_
      refine Do.region [10,19,20] true ?_
      simp [go_sem, hn, hrow3, hrow3b, hrl, show ((ys.length : Int) + ys.length).toNat = ys.length + ys.length by omega]
      repeat (refine And.intro (by first | omega | (intros; omega) | (intros; exact And.intro (by assumption) (by omega)) | grind) ?_)
      refine DoL.lend true 1503 100 501 rfl rfl rfl (by decide) ?_
      simp [go_sem, put, del]
      refine DoL.call true 1504 rfl rfl rfl rfl (by first | exact trivial | omega | (simp; done) | (simp; omega)) (hF) rfl (by first | exact .inl rfl | exact .inr rfl) rfl ?_
      simp [go_sem, hn, hrow3, hrow3b, hrl, show ((ys.length : Int) + ys.length).toNat = ys.length + ys.length by omega]
      repeat (refine And.intro (by first | omega | (intros; omega) | (intros; exact And.intro (by assumption) (by omega)) | grind) ?_)
      apply k17_; clear k17_
      refine Do.seqk fun _ k18_ => ?_
      refine Do.region [10,11,12] true ?_
      simp [go_sem, hn, hrow3, hrow3b, hrl, show ((ys.length : Int) + ys.length).toNat = ys.length + ys.length by omega]
      repeat (refine And.intro (by first | omega | (intros; omega) | (intros; exact And.intro (by assumption) (by omega)) | grind) ?_)
      apply k18_; clear k18_
      refine Do.ret ?_
      simp [endQ, rets, ret1, go_sem, hn, hrow3, hrow3b, hrl, show ((ys.length : Int) + ys.length).toNat = ys.length + ys.length by omega]
      repeat (refine And.intro (by first | omega | (intros; omega) | (intros; exact And.intro (by assumption) (by omega)) | grind) ?_)
      subst hw
      exact TLe.refl _
  · rw [if_neg he] at hw
    have hA := Args_err hl ho he
    rw [show Rows (xs ++ ys ++ [z]) = .s false (xs.map Fla.cs ++ (ys.map Fla.cs ++ [z.cs])) by simp [Rows]] at hA
    unfold dotE at hw he
    generalize argsE f p r ((xs.length : Int) != ys.length || decide ((1000 : Int) < xs.length)) (xs ++ ys ++ [z]) = ae at *
    refine Does.of (nt := 108) Tryd.func16 rfl rfl rfl (by simp) ?_
    simp only [argTm, PV.ext, Ce.ext]
    refine Do.seqk fun _ k1_ => ?_
    refine Do.region [1,2,3,5,9,10] true ?_
    simp [go_sem]
    apply k1_; clear k1_
    refine Do.seqk fun _ k2_ => ?_
    refine Do.draw [1,2,3,5,9,10,13] true (by kernel_rfl) ?_
    simp [go_sem]
    repeat (refine And.intro (by first | omega | (intros; omega) | (intros; exact And.intro (by assumption) (by omega)) | kernel_rfl | grind) ?_)
    try (refine And.intro (by kernel_rfl) ?_)
    apply k2_; clear k2_
    refine Do.seqk fun _ k3_ => ?_
    refine Do.region [1,2,5,9,10,14,15] true ?_
    simp [go_sem]
    repeat (refine And.intro (by first | omega | (intros; omega) | (intros; exact And.intro (by assumption) (by omega)) | grind) ?_)
    refine DoL.sealS true 213 100 rfl ?_
    simp [go_sem]
    refine DoL.call true 214 rfl rfl rfl rfl (by first | exact trivial | omega | (simp; done) | (simp; omega)) (hA) rfl (by first | exact .inl rfl | exact .inr rfl) rfl ?_
    simp [go_sem]
    apply k3_; clear k3_
    refine Do.seqk fun _ k4_ => ?_
    refine Do.seqk fun _ k5_ => ?_
    refine Do.region [1,2,5,9,10,14,15,47] true ?_
    simp [go_sem]
    apply k5_; clear k5_
    refine Do.cond [1,2,5,9,10,14,15] rfl (fun h => ?_) (fun h => ?_) <;> simp [go_sem] at h ⊢
    · refine Do.seqk fun _ k6_ => ?_
      refine Do.region [10,11,12] true ?_
      simp [go_sem]
      repeat (refine And.intro (by first | omega | (intros; omega) | (intros; exact And.intro (by assumption) (by omega)) | grind) ?_)
      apply k6_; clear k6_
      refine Do.ret ?_
      simp [endQ, rets, ret1, go_sem]
      repeat (refine And.intro (by first | omega | (intros; omega) | (intros; exact And.intro (by assumption) (by omega)) | grind) ?_)
      subst hw
      exact ret_res (ret_z rfl) rfl
    · exact absurd h he
end Go.Proofs.YthpkhmbjmnhmoaaDoor
/- Sums of products, by the reference. No condition. -/
namespace Go.Proofs.YthpkhmbjmnhmoaaDoor
set_option linter.unusedVariables false
set_option linter.unusedSimpArgs false
set_option maxHeartbeats 4000000
set_option maxRecDepth 10000
/-- A float of the reference that is small. -/
structure Rs (x : Fla) : Prop where
  rt : Rt x
  lo : -100000 ≤ (rcanon x.flt).e
  hi : (rcanon x.flt).e ≤ 100000
  bl : bl (rcanon x.flt).v ≤ 256
theorem held_rs {f p : Int} (hf : fmOk f p = true) {x : Fla} (h : (holdsP f p x.flt).2 = true) (hr : Rt x) : Rs x := by
  have h1 := held_small hf h
  rw [← (held_rcanon h).1] at h1
  exact ⟨hr, h1.1, h1.2.1, h1.2.2.1⟩
theorem prodF_k4 (x y : Flt) : K4 (prodF x y).1 := by
  unfold K4 prodF
  split
  · simp
  · split
    · simp
    · split
      · simp
      · split <;> simp
theorem prodF_rt {x y : Fla} (hx : Rs x) (hy : Rs y) : Rt (prodF x.flt y.flt).1.fla := by
  have hp := prodF_pr hx.rt hy.rt
  have hm := bl_mul_le (rcanon x.flt).v (rcanon y.flt).v
  have a1 := hx.bl
  have a2 := hx.lo
  have a3 := hx.hi
  have b1 := hy.bl
  have b2 := hy.lo
  have b3 := hy.hi
  have key : bl (prodF x.flt y.flt).1.v ≤ 512 ∧ (canon (prodF x.flt y.flt).1).2 = true := by
    have hpos := hp.pos
    unfold prodF at hpos ⊢
    split
    · exact ⟨by simp [bl_zero], rfl⟩
    · split
      · exact ⟨by simp [bl_zero], rfl⟩
      · split
        · exact ⟨by simp [bl_zero], rfl⟩
        · split
          · exact ⟨by simp [bl_zero], rfl⟩
          · rename_i h1 h2 h3 h4
            rw [if_neg h1, if_neg h2, if_neg h3, if_neg h4] at hpos
            have hv := hpos rfl
            simp only [] at hv ⊢
            refine ⟨by omega, ?_⟩
            have htz := tz_lt_bl (show 0 < (rcanon x.flt).v * (rcanon y.flt).v by omega)
            unfold canon
            simp only []
            rw [if_neg (by omega), if_neg (by omega), if_pos trivial, if_neg (by omega)]
            simp only [decide_eq_true_eq]
            omega
  refine ⟨by rw [Flt.fla_flt]; exact key.2, nat_ws _, ?_⟩
  have := len_bl key.1
  show (nat (prodF x.flt y.flt).1.v).length ≤ 4096
  omega
def anyNan (ps : List (Flt × Bool)) : Bool := ps.any fun q => q.1.k == 3
def anyBad (ps : List (Flt × Bool)) : Bool := ps.any fun q => !q.2
theorem anyNan_snoc (ps : List (Flt × Bool)) (q : Flt × Bool) : anyNan (ps ++ [q]) = (anyNan ps || q.1.k == 3) := by simp [anyNan]
theorem anyBad_snoc (ps : List (Flt × Bool)) (q : Flt × Bool) : anyBad (ps ++ [q]) = (anyBad ps || !q.2) := by simp [anyBad]
end Go.Proofs.YthpkhmbjmnhmoaaDoor
/- The program awake: products. No condition. -/
namespace Go.Proofs.YthpkhmbjmnhmoaaDoor
set_option linter.unusedVariables false
set_option linter.unusedSimpArgs false
set_option maxHeartbeats 4000000
set_option maxRecDepth 10000
theorem PFused_does {f p r : Int} {x y z : Fla} (hx : x.Ok) (hy : y.Ok) (hz : z.Ok) : Does Tryd.prog Gv 11 [Fm f p, .c (.i .i64 r), Fl x.k x.n x.e x.m, Fl y.k y.n y.e y.m, Fl z.k z.n z.e z.m] (Res (dotA f p r [x] [y] z)) := by
  have hD : Does Tryd.prog Gv 16 [Fm f p, .c (.i .i64 r), .s false [x.cs], .s false [y.cs], Fl z.k z.n z.e z.m] (Res (dotA f p r [x] [y] z)) := PDot_does (xs := [x]) (ys := [y]) (by simp) (by simp) (by simp [hx]) (by simp [hy]) hz
  generalize dotA f p r [x] [y] z = w at *
  refine Does.of (nt := 24) Tryd.func11 rfl rfl rfl (by simp) ?_
  simp only [argTm, PV.ext, Ce.ext]
  refine Do.seqk fun _ k1_ => ?_
  refine Do.region [1,5,7,8,9,10] true ?_
  simp [go_sem]
  apply k1_; clear k1_
  refine Do.seqk fun _ k2_ => ?_
  refine Do.region [10,11,12] true ?_
  simp [go_sem]
  repeat (refine And.intro (by first | omega | (intros; omega) | (intros; exact And.intro (by assumption) (by omega)) | grind) ?_)
  refine DoL.sealS true 107 103 rfl ?_
  simp [go_sem]
  refine DoL.sealS true 107 105 rfl ?_
  simp [go_sem]
  refine DoL.call true 108 rfl rfl rfl rfl (by first | exact trivial | omega | (simp; done) | (simp; omega)) (hD) rfl (by first | exact .inl rfl | exact .inr rfl) rfl ?_
  simp [go_sem]
  repeat (refine And.intro (by first | omega | (intros; omega) | (intros; exact And.intro (by assumption) (by omega)) | grind) ?_)
  apply k2_; clear k2_
  refine Do.ret ?_
  simp [endQ, rets, ret1, go_sem]
  repeat (refine And.intro (by first | omega | (intros; omega) | (intros; exact And.intro (by assumption) (by omega)) | grind) ?_)
  exact TLe.refl _
theorem awk_mul : mulP 5 11 0 ⟨1, false, 0, [33]⟩ ⟨1, false, 0, [63]⟩ = (⟨1, false, 5, 65⟩, 1, 0) := by kernel_rfl
theorem awk_dot : dotA 5 11 0 [⟨1, false, 0, [33]⟩] [⟨1, false, 0, [63]⟩] ⟨1, false, 0, [1]⟩ = (⟨1, false, 5, 65⟩, 0, 0) := by kernel_rfl
theorem awk_inf : mulP 5 11 0 ⟨0, false, 0, []⟩ ⟨2, false, 0, []⟩ = (⟨3, false, 0, 0⟩, 16, 0) := by kernel_rfl
theorem awk_same18 : sameP ⟨1, false, 5, 65⟩ ⟨1, false, 5, 65⟩ = true := by kernel_rfl
theorem nat_word' {n : Nat} (h0 : n ≠ 0) (h : n < 18446744073709551616) : nat n = [n] := by
  unfold nat; rw [dif_neg h0]; rw [show n / 18446744073709551616 = 0 by omega, nat_zero, Nat.mod_eq_of_lt h]
theorem awake18_does : Does Tryd.prog Gv 9 [] (.v (.c (.b true))) := by
  have o1 : (Fla.mk 1 false 0 [33]).Ok := ⟨by simp [Sh], fun w hw => by simp at hw; omega, by constructor <;> simp⟩
  have o2 : (Fla.mk 1 false 0 [63]).Ok := ⟨by simp [Sh], fun w hw => by simp at hw; omega, by constructor <;> simp⟩
  have o3 : (Fla.mk 1 false 0 [1]).Ok := ⟨by simp [Sh], fun w hw => by simp at hw; omega, by constructor <;> simp⟩
  have o4 : (Fla.mk 0 false 0 []).Ok := ⟨by simp [Sh], fun w hw => by simp at hw, by constructor <;> simp⟩
  have o5 : (Fla.mk 2 false 0 []).Ok := ⟨by simp [Sh], fun w hw => by simp at hw, by constructor <;> simp⟩
  have h1 := PMul_does (f := 5) (p := 11) (r := 0) o1 o2
  have h2 := PFused_does (f := 5) (p := 11) (r := 0) o1 o2 o3
  have h3 := PMul_does (f := 5) (p := 11) (r := 0) o4 o5
  have h4 := @Same_does 1 false 5 [65] 1 false 5 [65] (by simp [Sh]) (fun w hw => by simp at hw; omega) (by constructor <;> omega) (by simp [Sh]) (fun w hw => by simp at hw; omega) (by constructor <;> omega)
  rw [awk_mul] at h1
  rw [awk_dot] at h2
  rw [awk_inf] at h3
  rw [show val [65] = 65 from rfl, awk_same18] at h4
  have h1 : Does Tryd.prog Gv 10 [Fm 5 11, .c (.i .i64 0), Fl 1 false 0 [33], Fl 1 false 0 [63]] (.t [Fl 1 false 5 (nat 65), .c (.i .i64 1), .c (.i .i64 0)]) := h1
  have h2 : Does Tryd.prog Gv 11 [Fm 5 11, .c (.i .i64 0), Fl 1 false 0 [33], Fl 1 false 0 [63], Fl 1 false 0 [1]] (.t [Fl 1 false 5 (nat 65), .c (.i .i64 0), .c (.i .i64 0)]) := h2
  have h3 : Does Tryd.prog Gv 10 [Fm 5 11, .c (.i .i64 0), .a [.i .i64 0, .b false, .i .i64 0, .z], .a [.i .i64 2, .b false, .i .i64 0, .z]] (.t [Fl 3 false 0 (nat 0), .c (.i .i64 16), .c (.i .i64 0)]) :=
    h3.weak (.cons (PLe.refl _) (.cons (PLe.refl _) (.cons (PLe.flt (PLe.z false)) (.cons (PLe.flt (PLe.z false)) .nil))))
  rw [nat_word' (by decide) (by decide)] at h1 h2
  rw [nat_zero] at h3
  refine Does.of (nt := 101) Tryd.func9 rfl rfl rfl (by simp) ?_
  simp only [argTm, PV.ext, Ce.ext]
  refine Do.seqk fun _ k1_ => ?_
  refine Do.region [] true ?_
  simp [go_sem]
  apply k1_; clear k1_
  refine Do.seqk fun _ k2_ => ?_
  refine Do.region [1] true ?_
  simp [go_sem]
  repeat (refine And.intro (by first | omega | (intros; omega) | (intros; exact And.intro (by assumption) (by omega)) | grind) ?_)
  apply k2_; clear k2_
  refine Do.seqk fun _ k3_ => ?_
  refine Do.region [1,2] true ?_
  simp [go_sem]
  repeat (refine And.intro (by first | omega | (intros; omega) | (intros; exact And.intro (by assumption) (by omega)) | grind) ?_)
  apply k3_; clear k3_
  refine Do.seqk fun _ k4_ => ?_
  refine Do.region [1,2,3] true ?_
  simp [go_sem]
  repeat (refine And.intro (by first | omega | (intros; omega) | (intros; exact And.intro (by assumption) (by omega)) | grind) ?_)
  apply k4_; clear k4_
  refine Do.seqk fun _ k5_ => ?_
  refine Do.region [1,2,3,4] true ?_
  simp [go_sem]
  repeat (refine And.intro (by first | omega | (intros; omega) | (intros; exact And.intro (by assumption) (by omega)) | grind) ?_)
  apply k5_; clear k5_
  refine Do.seqk fun _ k6_ => ?_
  refine Do.frz 200 rfl ?_
  refine Do.frz 300 rfl ?_
  refine Do.frz 400 rfl ?_
  refine Do.region [1,2,3,4,5,6,7] true ?_
  simp [go_sem]
  repeat (refine And.intro (by first | omega | (intros; omega) | (intros; exact And.intro (by assumption) (by omega)) | grind) ?_)
  refine DoL.call true 504 rfl rfl rfl rfl (by first | exact trivial | omega | (simp; done) | (simp; omega)) (h1) rfl (by first | exact .inl rfl | exact .inr rfl) rfl ?_
  simp [go_sem]
  repeat (refine And.intro (by first | omega | (intros; omega) | (intros; exact And.intro (by assumption) (by omega)) | grind) ?_)
  apply k6_; clear k6_
  refine Do.seqk fun _ k7_ => ?_
  refine Do.region [1,5,6,7,8,9,10] true ?_
  simp [go_sem]
  repeat (refine And.intro (by first | omega | (intros; omega) | (intros; exact And.intro (by assumption) (by omega)) | grind) ?_)
  refine DoL.call true 605 rfl rfl rfl rfl (by first | exact trivial | omega | (simp; done) | (simp; omega)) (h2) rfl (by first | exact .inl rfl | exact .inr rfl) rfl ?_
  simp [go_sem]
  repeat (refine And.intro (by first | omega | (intros; omega) | (intros; exact And.intro (by assumption) (by omega)) | grind) ?_)
  apply k7_; clear k7_
  refine Do.seqk fun _ k8_ => ?_
  refine Do.region [5,6,7,8,9,10,11,12,13] true ?_
  simp [go_sem]
  repeat (refine And.intro (by first | omega | (intros; omega) | (intros; exact And.intro (by assumption) (by omega)) | grind) ?_)
  refine DoL.call true 704 rfl rfl rfl rfl (by first | exact trivial | omega | (simp; done) | (simp; omega)) (h3) rfl (by first | exact .inl rfl | exact .inr rfl) rfl ?_
  simp [go_sem]
  repeat (refine And.intro (by first | omega | (intros; omega) | (intros; exact And.intro (by assumption) (by omega)) | grind) ?_)
  apply k8_; clear k8_
  refine Do.seqk fun _ k9_ => ?_
  refine Do.region [0] true ?_
  simp [go_sem]
  repeat (refine And.intro (by first | omega | (intros; omega) | (intros; exact And.intro (by assumption) (by omega)) | grind) ?_)
  refine DoL.callg true 841 rfl rfl rfl rfl rfl (by simp [go_sem] <;> omega) (fun _ => h4) rfl (by first | exact .inl rfl | exact .inr rfl) rfl ?_
  simp [go_sem]
  repeat (refine And.intro (by first | omega | (intros; omega) | (intros; exact And.intro (by assumption) (by omega)) | grind) ?_)
  apply k9_; clear k9_
  refine Do.ret ?_
  simp [endQ, rets, ret1, go_sem]
  repeat (refine And.intro (by first | omega | (intros; omega) | (intros; exact And.intro (by assumption) (by omega)) | grind) ?_)
  exact TLe.refl _
theorem timesP_k (x y : Flt) : (timesP x y).2.1 = 0 ∨ (timesP x y).2.1 = 1 ∨ (timesP x y).2.1 = 2 ∨ (timesP x y).2.1 = 3 := by
  unfold timesP
  split
  · simp
  · split
    · simp
    · split <;> simp
theorem roundT_fine {f p r : Int} (hf : fmOk f p = true) {t : Bool × Int × Nu} (ht : t.2.1 = 0 ∨ t.2.1 = 1 ∨ t.2.1 = 2 ∨ t.2.1 = 3) : rcanon (roundT t f p r).1 = (roundT t f p r).1 ∧ Fine (roundT t f p r).1 := by
  unfold roundT
  split
  · exact ⟨rfl, fine_nan⟩
  · split
    · exact ⟨rfl, fine_nan⟩
    · split
      · rename_i h1 h2
        rcases ht with h | h | h | h
        · rw [h]; exact ⟨rfl, fine_zero⟩
        · exact absurd h h2
        · rw [h]; exact ⟨rfl, fine_inf⟩
        · exact absurd h h1
      · unfold Nu.round
        split
        · exact ⟨rfl, fine_zero⟩
        · exact ⟨roundP_fix hf, roundP_fine hf⟩
theorem mulP_fine {f p r : Int} {x y : Fla} : rcanon (mulP f p r x y).1 = (mulP f p r x y).1 ∧ Fine (mulP f p r x y).1 := by
  unfold mulP
  split
  · rename_i h
    exact roundT_fine (argsE_zero h).2.2.2.2.1 (timesP_k _ _)
  · exact ⟨rfl, fine_zero⟩
theorem dotA_fine {f p r : Int} {xs ys : List Fla} {z : Fla} : rcanon (dotA f p r xs ys z).1 = (dotA f p r xs ys z).1 ∧ Fine (dotA f p r xs ys z).1 := by
  unfold dotA
  split
  · rename_i h
    have hf := (argsE_zero h).2.2.2.2.1
    exact ⟨float_fix hf, float_fine hf⟩
  · exact ⟨rfl, fine_zero⟩
end Go.Proofs.YthpkhmbjmnhmoaaDoor
/- The law ProductMuls. No condition. -/
namespace Go.Proofs.YthpkhmbjmnhmoaaDoor
set_option linter.unusedVariables false
set_option linter.unusedSimpArgs false
set_option maxHeartbeats 4000000
set_option maxRecDepth 10000
theorem mul_same {f p r : Int} {x y : Fla} (he : argsE f p r false [x, y] = 0) (ho : ∀ u ∈ [x, y], u.Ok) : mulP f p r x y = ((mulR f p r x.flt y.flt).1, (mulR f p r x.flt y.flt).2, 0) := by
  obtain ⟨h1, h2, h3, h4, h5, h6⟩ := argsE_zero he
  have hhx : (holdsP f p x.flt).2 = true := by simpa using List.all_eq_true.1 h6 x (by simp)
  have hhy : (holdsP f p y.flt).2 = true := by simpa using List.all_eq_true.1 h6 y (by simp)
  rw [mulP, if_pos he, times_mul (held_cf hhx) (held_cf hhy), ← (held_rcanon hhx).1, ← (held_rcanon hhy).1, mulR_rc]
end Go.Proofs.YthpkhmbjmnhmoaaDoor
/- The law ProductFused. No condition. -/
namespace Go.Proofs.YthpkhmbjmnhmoaaDoor
set_option linter.unusedVariables false
set_option linter.unusedSimpArgs false
set_option maxHeartbeats 4000000
set_option maxRecDepth 10000
theorem dot_ref {f p r : Int} {xs ys : List Fla} {z : Fla} (he : dotE f p r xs ys z = 0) (ho : ∀ u ∈ xs ++ ys ++ [z], u.Ok) :
    (fmOk f p = true ∧ 0 ≤ r ∧ r ≤ 4 ∧ xs.length = ys.length ∧ ys.length ≤ 1000 ∧ (∀ x ∈ xs, Rs x) ∧ (∀ x ∈ ys, Rs x) ∧ Rt z) ∧
    dotA f p r xs ys z = ((dotR f p r ((xs.map fun x => rcanon x.flt).zip (ys.map fun x => rcanon x.flt)) (rcanon z.flt)).1, (dotR f p r ((xs.map fun x => rcanon x.flt).zip (ys.map fun x => rcanon x.flt)) (rcanon z.flt)).2, 0) := by
  have he' := he
  unfold dotE at he'
  obtain ⟨h1, h2, h3, h4, h5, h6⟩ := argsE_zero he'
  have hall : ∀ x ∈ xs ++ ys ++ [z], (holdsP f p x.flt).2 = true := fun x hx => by simpa using List.all_eq_true.1 h6 x hx
  have hrt := held_rt h6 ho h1
  have hlen : xs.length = ys.length ∧ ys.length ≤ 1000 := by simp at h4; omega
  refine ⟨⟨h5, h2, h3, hlen.1, hlen.2, fun x hx => held_rs h5 (hall x (by simp [hx])) (hrt x (by simp [hx])), fun x hx => held_rs h5 (hall x (by simp [hx])) (hrt x (by simp [hx])), hrt z (by simp)⟩, ?_⟩
  have ex : heldL f p xs = xs.map fun x => rcanon x.flt := by
    unfold heldL
    exact List.map_congr_left fun x hx => (held_rcanon (hall x (by simp [hx]))).1.symm
  have ey : heldL f p ys = ys.map fun x => rcanon x.flt := by
    unfold heldL
    exact List.map_congr_left fun x hx => (held_rcanon (hall x (by simp [hx]))).1.symm
  have ez := (held_rcanon (hall z (by simp))).1
  have hs : dotP f p r (tsOf ((heldL f p xs).zip (heldL f p ys))) (holdsP f p z.flt).1 = dotR f p r ((heldL f p xs).zip (heldL f p ys)) (holdsP f p z.flt).1 := by
    refine dot_same (w := -200000) ?_ (held_cf (hall z (by simp))) (by omega) ?_ ?_
    · intro q hq
      obtain ⟨q1, q2⟩ := q
      have m1 := (List.of_mem_zip hq).1
      have m2 := (List.of_mem_zip hq).2
      obtain ⟨x, hx, e1⟩ := List.mem_map.1 m1
      obtain ⟨y, hy, e2⟩ := List.mem_map.1 m2
      simp only [← e1, ← e2]
      exact ⟨held_cf (hall x (by simp [hx])), held_cf (hall y (by simp [hy]))⟩
    · intro q hq _ _
      obtain ⟨q1, q2⟩ := q
      have m1 := (List.of_mem_zip hq).1
      have m2 := (List.of_mem_zip hq).2
      obtain ⟨x, hx, e1⟩ := List.mem_map.1 m1
      obtain ⟨y, hy, e2⟩ := List.mem_map.1 m2
      have s1 := held_small h5 (hall x (by simp [hx]))
      have s2 := held_small h5 (hall y (by simp [hy]))
      simp only [← e1, ← e2]
      omega
    · intro _
      have := held_small h5 (hall z (by simp))
      omega
  rw [dotA, if_pos he, hs, ex, ey, ez]
end Go.Proofs.YthpkhmbjmnhmoaaDoor
/- The law ProductDots. No condition. -/
namespace Go.Proofs.YthpkhmbjmnhmoaaDoor
set_option linter.unusedVariables false
set_option linter.unusedSimpArgs false
set_option maxHeartbeats 4000000
set_option maxRecDepth 10000
end Go.Proofs.YthpkhmbjmnhmoaaDoor
/- The law ProductOrder. No condition. -/
namespace Go.Proofs.YthpkhmbjmnhmoaaDoor
set_option linter.unusedVariables false
set_option linter.unusedSimpArgs false
set_option maxHeartbeats 4000000
set_option maxRecDepth 10000
theorem argsE_sub {f p r : Int} {l m : List Fla} (h : argsE f p r false l = 0) (hs : ∀ u ∈ m, u ∈ l) : argsE f p r false m = 0 := by
  obtain ⟨h1, h2, h3, h4, h5, h6⟩ := argsE_zero h
  rw [argsE, if_neg, if_neg (by simp; omega), if_neg (by rw [h5]; decide), if_neg]
  · rw [allHold, Bool.not_eq_false, List.all_eq_true]
    intro x hx
    exact List.all_eq_true.1 h6 x (hs x hx)
  · rw [anyLarge, List.any_eq_true]
    rintro ⟨x, hx, hl⟩
    have := h1 x (hs x hx)
    simp at hl; omega
theorem mulP_comm {f p r : Int} {x y : Fla} (h1 : argsE f p r false [x, y] = 0) (h2 : argsE f p r false [y, x] = 0) : mulP f p r y x = mulP f p r x y := by
  rw [mulP, mulP, if_pos h1, if_pos h2, timesP_comm]
theorem dotA_comm {f p r : Int} {x y z : Fla} (h1 : argsE f p r false [x, y, z] = 0) (h2 : argsE f p r false [y, x, z] = 0) : dotA f p r [y] [x] z = dotA f p r [x] [y] z := by
  have e1 : dotE f p r [x] [y] z = 0 := h1
  have e2 : dotE f p r [y] [x] z = 0 := h2
  have e3 : tsOf ((heldL f p [y]).zip (heldL f p [x])) = tsOf ((heldL f p [x]).zip (heldL f p [y])) := by
    simp only [heldL, List.map_cons, List.map_nil, List.zip_cons_cons, List.zip_nil_right, tsOf]
    rw [timesP_comm]
  rw [dotA, dotA, if_pos e1, if_pos e2, e3]
abbrev oneF : Fla := ⟨1, false, 0, [1]⟩
theorem one_holds {f p : Int} (hf : fmOk f p = true) : holdsP f p oneF.flt = (⟨1, false, 0, 1⟩, true) := by
  obtain ⟨b1, b2, b3, b4⟩ := fmOk_spec hf
  obtain ⟨b5, b6⟩ := gOfE_le b1 b2
  have hc : canon oneF.flt = (⟨1, false, 0, 1⟩, true) := by kernel_rfl
  unfold holdsP
  rw [hc]
  simp only []
  rw [if_neg (by simp)]
  have hb : bl 1 = 1 := by decide
  rw [hb]
  congr 1
  simp; omega
theorem held_fin {f p : Int} {x : Flt} (h : (holdsP f p x).2 = true) (hk : (holdsP f p x).1.k = 1) : (bl (holdsP f p x).1.v : Int) ≤ p ∧ 1 - gOfE f - (p - 1) ≤ (holdsP f p x).1.e ∧ (holdsP f p x).1.e + bl (holdsP f p x).1.v ≤ gOfE f + 1 := by
  unfold holdsP at *
  split at h
  · rename_i hc
    rw [if_pos hc] at hk
    rcases hc with hc | hc
    · rw [h] at hc; cases hc
    · exact absurd hk hc
  · rename_i hc
    rw [if_neg hc]
    simp only [Bool.and_eq_true, decide_eq_true_eq] at h
    simp only []
    omega
/-- A float that is held times 1 is itself. -/
theorem times_one {f p r : Int} (hf : fmOk f p = true) {x : Flt} (h : (holdsP f p x).2 = true) : roundT (timesP (holdsP f p x).1 ⟨1, false, 0, 1⟩) f p r = ((holdsP f p x).1, 0) := by
  have hc := held_cf h
  have ho := held_fin h
  have hn : (holdsP f p x).1.k = 3 → (holdsP f p x).1.n = false := by
    rw [← (held_rcanon h).1, rcanon_k, rcanon_n]; exact (canon_kind (held_rcanon h).2).2
  generalize (holdsP f p x).1 = a at *
  have hfx := hc.fix
  obtain ⟨k, n, e, v⟩ := a
  have hk := hc.k
  have hp := hc.pos
  unfold K4 at hk
  simp only at hk hp hn ho
  rcases hk with rfl | rfl | rfl | rfl
  · unfold rcanon at hfx
    simp at hfx
    simp [timesP, roundT, hfx.1.symm, hfx.2.symm]
  · have hv := hp rfl
    obtain ⟨h1, h2, h3⟩ := ho rfl
    have e1 : timesP ⟨1, n, e, v⟩ ⟨1, false, 0, 1⟩ = (false, 1, ⟨n, v, e⟩) := by
      simp [timesP]
    rw [e1]
    unfold roundT Nu.round
    simp only [Bool.false_eq_true, if_false]
    rw [if_neg (by decide), if_neg (by decide), if_neg hv, roundP_exact hf (by omega) h2 h1 h3, hfx]
  · unfold rcanon at hfx
    simp at hfx
    simp [timesP, roundT, hfx.1.symm, hfx.2.symm]
  · unfold rcanon at hfx
    simp at hfx
    have := hn rfl
    simp [timesP, roundT, hfx.1.symm, hfx.2.symm, this]
theorem mulP_one {f p r : Int} {x : Fla} (h : argsE f p r false [x] = 0) : mulP f p r x oneF = ((holdsP f p x.flt).1, 0, 0) := by
  obtain ⟨h1, h2, h3, h4, h5, h6⟩ := argsE_zero h
  have hh : (holdsP f p x.flt).2 = true := by simpa using List.all_eq_true.1 h6 x (by simp)
  have e : argsE f p r false [x, oneF] = 0 := by
    rw [argsE, if_neg, if_neg (by simp; omega), if_neg (by rw [h5]; decide), if_neg]
    · rw [allHold, Bool.not_eq_false, List.all_eq_true]
      intro u hu
      simp only [List.mem_cons, List.not_mem_nil, or_false] at hu
      rcases hu with rfl | rfl
      · exact hh
      · rw [one_holds h5]
    · rw [anyLarge, List.any_eq_true]
      rintro ⟨u, hu, hl⟩
      simp only [List.mem_cons, List.not_mem_nil, or_false] at hu
      rcases hu with rfl | rfl
      · have := h1 u (by simp); simp at hl; omega
      · simp at hl
  rw [mulP, if_pos e, one_holds h5, times_one h5 hh]
theorem canon_sign (n : Bool) (e : Int) (v : Nat) : (canon ⟨1, n, e, v⟩).2 = (canon ⟨1, !n, e, v⟩).2 := by
  unfold canon
  simp only [show ¬ ((1 : Int) = 0 ∨ (1 : Int) = 2) by omega, show ¬ (1 : Int) = 3 by omega, if_false, if_true]
  split <;> rfl
theorem canon_rneg' {x : Flt} (h : (canon x).2 = true) : (canon (rcanon x)).2 = true := by
  have h1 := (canon_rneg h)
  have hk := (canon_kind h).1
  by_cases hk1 : x.k = 1
  · have e1 : (rcanon x).neg = ⟨1, !x.n, x.e + tz x.v, x.v / 2 ^ tz x.v⟩ := by simp [rcanon, Flt.neg, hk1]
    have e2 : rcanon x = ⟨1, x.n, x.e + tz x.v, x.v / 2 ^ tz x.v⟩ := by simp [rcanon, hk1]
    rw [e1, canon_sign, Bool.not_not] at h1
    rw [e2]
    exact h1
  · have e2 : rcanon x = ⟨x.k, x.n, 0, 0⟩ := by simp [rcanon, hk1]
    rw [e2]
    unfold canon
    simp only []
    rcases hk with hk | hk | hk | hk
    · rw [if_pos (by omega)]; simp
    · exact absurd hk hk1
    · rw [if_pos (by omega)]; simp
    · rw [if_neg (by omega), if_pos hk]
      have := (canon_kind h).2 hk
      simp [this]
theorem same_held {f p : Int} {x : Flt} (h : (holdsP f p x).2 = true) : sameP x (holdsP f p x).1 = true := by
  have hr := held_rcanon h
  have hc : (canon x).1 = (holdsP f p x).1 := by rw [← rcanon_good hr.2, hr.1]
  have h2 : (canon (holdsP f p x).1).2 = true := by
    rw [← hr.1]
    have h3 := canon_rneg' hr.2
    exact h3
  have h4 : (canon (holdsP f p x).1).1 = (holdsP f p x).1 := by
    rw [← rcanon_good h2, ← hr.1]; exact rcanon_idem _
  unfold sameP
  rw [hr.2, h2, hc, h4]
  simp
theorem ProductOrder_does {f p r : Int} {x y z : Fla} (hx : Ws x.m) (ex : I64 x.e) (hy : Ws y.m) (ey : I64 y.e) (hz : Ws z.m) (ez : I64 z.e) : Does Tryd.prog Gv 3 [Fm f p, .c (.i .i64 r), Fl x.k x.n x.e x.m, Fl y.k y.n y.e y.m, Fl z.k z.n z.e z.m] (.v (.c (.b true))) := by
  have hS : Does Tryd.prog Gv 7 [.s false [x.cs, y.cs, z.cs]] (.v (.c (.b (shortP [x, y, z])))) := Short15_does (l := [x, y, z]) (by simp)
  cases hs : shortP [x, y, z] with
  | false =>
    rw [hs] at hS
    refine Does.of (nt := 143) Tryd.func3 rfl rfl rfl (by simp) ?_
    simp only [argTm, PV.ext, Ce.ext]
    refine Do.seqk fun _ k1_ => ?_
    refine Do.region [1,5,7,8,9] true ?_
    simp [go_sem]
    apply k1_; clear k1_
    refine Do.seqk fun _ k2_ => ?_
    refine Do.seqk fun _ k3_ => ?_
    refine Do.region [1,5,7,8,9,42] true ?_
    simp [go_sem]
    repeat (refine And.intro (by first | omega | (intros; omega) | (intros; exact And.intro (by assumption) (by omega)) | grind) ?_)
    refine DoL.sealS true 104 103 rfl ?_
    simp [go_sem]
    refine DoL.call true 105 rfl rfl rfl rfl (by first | exact trivial | omega | (simp; done) | (simp; omega)) (hS) rfl (by first | exact .inl rfl | exact .inr rfl) rfl ?_
    simp [go_sem]
    repeat (refine And.intro (by first | omega | (intros; omega) | (intros; exact And.intro (by assumption) (by omega)) | grind) ?_)
    refine DoL.gOff true 113 rfl rfl (.v (.s true [x.cs, y.cs, z.cs])) rfl ?_
    simp [go_sem]
    refine DoL.gOff true 114 rfl rfl (.int .i64 0) rfl ?_
    simp [go_sem]
    apply k3_; clear k3_
    refine Do.cond [1,5,7,8,9] rfl (fun h => ?_) (fun h => ?_) <;> simp [go_sem] at h ⊢
    refine Do.seqk fun _ k4_ => ?_
    refine Do.region [10] true ?_
    simp [go_sem]
    refine DoL.call true 201 rfl rfl rfl rfl (by first | exact trivial | omega | (simp; done) | (simp; omega)) (awake18_does) rfl (by first | exact .inl rfl | exact .inr rfl) rfl ?_
    simp [go_sem]
    apply k4_; clear k4_
    refine Do.ret ?_
    simp [endQ, rets, ret1, go_sem]
    repeat (refine And.intro (by first | omega | (intros; omega) | (intros; exact And.intro (by assumption) (by omega)) | grind) ?_)
    exact TLe.refl _
  | true =>
    rw [hs] at hS
    have hsx : x.m.length ≤ 40 ∧ y.m.length ≤ 40 ∧ z.m.length ≤ 40 := by simpa [shortP] using hs
    have ox : x.Ok := ⟨by simp [Sh]; omega, hx, ex⟩
    have oy : y.Ok := ⟨by simp [Sh]; omega, hy, ey⟩
    have oz : z.Ok := ⟨by simp [Sh]; omega, hz, ez⟩
    have o1 : (Fla.mk 1 false 0 [1]).Ok := ⟨by simp [Sh], fun w hw => by simp at hw; omega, by constructor <;> simp⟩
    have hA : Does Tryd.prog Gv 8 [Fm f p, .c (.i .i64 r), .s false [x.cs, y.cs, z.cs]] (.int .i64 (argsE f p r false [x, y, z])) := @KArgs_does Gv f p r [x, y, z] (by simp) (by simp [ox, oy, oz])
    have m1 := PMul_does (f := f) (p := p) (r := r) ox oy
    have m2 := PMul_does (f := f) (p := p) (r := r) oy ox
    have m3 := PMul_does (f := f) (p := p) (r := r) ox o1
    have f1 := PFused_does (f := f) (p := p) (r := r) ox oy oz
    have f2 := PFused_does (f := f) (p := p) (r := r) oy ox oz
    have q1 := @mulP_fine f p r x y
    have q2 := @dotA_fine f p r [x] [y] z
    by_cases he : argsE f p r false [x, y, z] = 0
    · have e1 := argsE_sub (m := [x, y]) he (by simp)
      have e2 := argsE_sub (m := [y, x]) he (by simp)
      have e3 := argsE_sub (m := [y, x, z]) he (by simp)
      have e4 := argsE_sub (m := [x]) he (by simp)
      have hh : (holdsP f p x.flt).2 = true := by
        have h6 := (argsE_zero e4).2.2.2.2.2
        simpa using List.all_eq_true.1 h6 x (by simp)
      have hsm := same_held hh
      have hsl := held_small (argsE_zero e4).2.2.2.2.1 hh
      rw [mulP_comm e1 e2] at m2
      rw [mulP_one e4] at m3
      rw [dotA_comm he e3] at f2
      have g1 : (mulP f p r x y).2.2 = 0 := by rw [mulP, if_pos e1]
      have g2 : (dotA f p r [x] [y] z).2.2 = 0 := by rw [dotA, if_pos (show dotE f p r [x] [y] z = 0 from he)]
      rw [he] at hA
      generalize mulP f p r x y = u at *
      generalize dotA f p r [x] [y] z = v at *
      generalize (holdsP f p x.flt).1 = a at *
      have s1 := @Same_does u.1.k u.1.n u.1.e (nat u.1.v) u.1.k u.1.n u.1.e (nat u.1.v) q1.2.sh (nat_ws _) q1.2.e q1.2.sh (nat_ws _) q1.2.e
      rw [val_nat, show sameP ⟨u.1.k, u.1.n, u.1.e, u.1.v⟩ ⟨u.1.k, u.1.n, u.1.e, u.1.v⟩ = true from q1.2.same] at s1
      have s2 := @Same_does v.1.k v.1.n v.1.e (nat v.1.v) v.1.k v.1.n v.1.e (nat v.1.v) q2.2.sh (nat_ws _) q2.2.e q2.2.sh (nat_ws _) q2.2.e
      rw [val_nat, show sameP ⟨v.1.k, v.1.n, v.1.e, v.1.v⟩ ⟨v.1.k, v.1.n, v.1.e, v.1.v⟩ = true from q2.2.same] at s2
      have s3 := @Same_does x.k x.n x.e x.m a.k a.n a.e (nat a.v) ox.sh hx ex (by unfold Sh; have := nat_len_bl a.v; omega) (nat_ws _) (by unfold I64; omega)
      rw [val_nat, show sameP ⟨x.k, x.n, x.e, val x.m⟩ ⟨a.k, a.n, a.e, a.v⟩ = true from hsm] at s3
      have m1 : Does Tryd.prog Gv 10 [Fm f p, .c (.i .i64 r), Fl x.k x.n x.e x.m, Fl y.k y.n y.e y.m] (.t [u.1.pv, .c (.i .i64 u.2.1), .c (.i .i64 0)]) := g1 ▸ m1
      have m2 : Does Tryd.prog Gv 10 [Fm f p, .c (.i .i64 r), Fl y.k y.n y.e y.m, Fl x.k x.n x.e x.m] (.t [u.1.pv, .c (.i .i64 u.2.1), .c (.i .i64 0)]) := g1 ▸ m2
      have m3 : Does Tryd.prog Gv 10 [Fm f p, .c (.i .i64 r), Fl x.k x.n x.e x.m, Fl 1 false 0 [1]] (.t [a.pv, .c (.i .i64 0), .c (.i .i64 0)]) := m3
      have f1 : Does Tryd.prog Gv 11 [Fm f p, .c (.i .i64 r), Fl x.k x.n x.e x.m, Fl y.k y.n y.e y.m, Fl z.k z.n z.e z.m] (.t [v.1.pv, .c (.i .i64 v.2.1), .c (.i .i64 0)]) := g2 ▸ f1
      have f2 : Does Tryd.prog Gv 11 [Fm f p, .c (.i .i64 r), Fl y.k y.n y.e y.m, Fl x.k x.n x.e x.m, Fl z.k z.n z.e z.m] (.t [v.1.pv, .c (.i .i64 v.2.1), .c (.i .i64 0)]) := g2 ▸ f2
      refine Does.of (nt := 143) Tryd.func3 rfl rfl rfl (by simp) ?_
      simp only [argTm, PV.ext, Ce.ext]
      refine Do.seqk fun _ k1_ => ?_
      refine Do.region [1,5,7,8,9] true ?_
      simp [go_sem]
      apply k1_; clear k1_
      refine Do.seqk fun _ k2_ => ?_
      refine Do.seqk fun _ k3_ => ?_
      refine Do.region [1,5,7,8,9,42] true ?_
      simp [go_sem]
      repeat (refine And.intro (by first | omega | (intros; omega) | (intros; exact And.intro (by assumption) (by omega)) | grind) ?_)
      refine DoL.sealS true 104 103 rfl ?_
      simp [go_sem]
      refine DoL.call true 105 rfl rfl rfl rfl (by first | exact trivial | omega | (simp; done) | (simp; omega)) (hS) rfl (by first | exact .inl rfl | exact .inr rfl) rfl ?_
      simp [go_sem]
      repeat (refine And.intro (by first | omega | (intros; omega) | (intros; exact And.intro (by assumption) (by omega)) | grind) ?_)
      refine DoL.gOn true 112 rfl rfl [36, 37, 38] (by simp [go_sem]) ?_
      simp [go_sem]
      refine DoL.sealS true 113 112 rfl ?_
      simp [go_sem]
      refine DoL.callg true 114 rfl rfl rfl rfl rfl (by simp [go_sem] <;> omega) (fun _ => hA) rfl (by first | exact .inl rfl | exact .inr rfl) rfl ?_
      simp [go_sem]
      apply k3_; clear k3_
      refine Do.cond [1,5,7,8,9] rfl (fun h => ?_) (fun h => ?_) <;> simp [go_sem] at h ⊢
      refine Do.skip ?_
      simp [go_sem]
      apply k2_; clear k2_
      refine Do.seqk fun _ k4_ => ?_
      refine Do.region [1,5,7,8,9,11] true ?_
      simp [go_sem]
      repeat (refine And.intro (by first | omega | (intros; omega) | (intros; exact And.intro (by assumption) (by omega)) | grind) ?_)
      apply k4_; clear k4_
      refine Do.seqk fun _ k5_ => ?_
      refine Do.frz 300 rfl ?_
      refine Do.region [1,5,7,8,9,11,12,13,14] true ?_
      simp [go_sem]
      repeat (refine And.intro (by first | omega | (intros; omega) | (intros; exact And.intro (by assumption) (by omega)) | grind) ?_)
      refine DoL.call true 405 rfl rfl rfl rfl (by first | exact trivial | omega | (simp; done) | (simp; omega)) (m1) rfl (by first | exact .inl rfl | exact .inr rfl) rfl ?_
      simp [go_sem]
      repeat (refine And.intro (by first | omega | (intros; omega) | (intros; exact And.intro (by assumption) (by omega)) | grind) ?_)
      apply k5_; clear k5_
      refine Do.seqk fun _ k6_ => ?_
      refine Do.region [1,5,7,8,9,11,12,13,14,15,16,17] true ?_
      simp [go_sem]
      repeat (refine And.intro (by first | omega | (intros; omega) | (intros; exact And.intro (by assumption) (by omega)) | grind) ?_)
      refine DoL.call true 505 rfl rfl rfl rfl (by first | exact trivial | omega | (simp; done) | (simp; omega)) (m2) rfl (by first | exact .inl rfl | exact .inr rfl) rfl ?_
      simp [go_sem]
      repeat (refine And.intro (by first | omega | (intros; omega) | (intros; exact And.intro (by assumption) (by omega)) | grind) ?_)
      apply k6_; clear k6_
      refine Do.seqk fun _ k7_ => ?_
      refine Do.region [1,5,7,8,9,11,12,13,14,15,16,17,18,19,20] true ?_
      simp [go_sem]
      repeat (refine And.intro (by first | omega | (intros; omega) | (intros; exact And.intro (by assumption) (by omega)) | grind) ?_)
      refine DoL.call true 606 rfl rfl rfl rfl (by first | exact trivial | omega | (simp; done) | (simp; omega)) (f1) rfl (by first | exact .inl rfl | exact .inr rfl) rfl ?_
      simp [go_sem]
      repeat (refine And.intro (by first | omega | (intros; omega) | (intros; exact And.intro (by assumption) (by omega)) | grind) ?_)
      apply k7_; clear k7_
      refine Do.seqk fun _ k8_ => ?_
      refine Do.region [1,5,7,11,12,13,14,15,16,17,18,19,20,21,22,23] true ?_
      simp [go_sem]
      repeat (refine And.intro (by first | omega | (intros; omega) | (intros; exact And.intro (by assumption) (by omega)) | grind) ?_)
      refine DoL.call true 706 rfl rfl rfl rfl (by first | exact trivial | omega | (simp; done) | (simp; omega)) (f2) rfl (by first | exact .inl rfl | exact .inr rfl) rfl ?_
      simp [go_sem]
      repeat (refine And.intro (by first | omega | (intros; omega) | (intros; exact And.intro (by assumption) (by omega)) | grind) ?_)
      apply k8_; clear k8_
      refine Do.seqk fun _ k9_ => ?_
      refine Do.region [7,12,13,14,15,16,17,18,19,20,21,22,23,24,25,26] true ?_
      simp [go_sem]
      repeat (refine And.intro (by first | omega | (intros; omega) | (intros; exact And.intro (by assumption) (by omega)) | grind) ?_)
      refine DoL.call true 805 rfl rfl rfl rfl (by first | exact trivial | omega | (simp; done) | (simp; omega)) (m3) rfl (by first | exact .inl rfl | exact .inr rfl) rfl ?_
      simp [go_sem]
      repeat (refine And.intro (by first | omega | (intros; omega) | (intros; exact And.intro (by assumption) (by omega)) | grind) ?_)
      apply k9_; clear k9_
      refine Do.seqk fun _ k10_ => ?_
      refine Do.region [10] true ?_
      simp [go_sem]
      repeat (refine And.intro (by first | omega | (intros; omega) | (intros; exact And.intro (by assumption) (by omega)) | grind) ?_)
      refine DoL.callg true 936 rfl rfl rfl rfl rfl (by simp [go_sem] <;> omega) (fun _ => s1) rfl (by first | exact .inl rfl | exact .inr rfl) rfl ?_
      simp [go_sem]
      repeat (refine And.intro (by first | omega | (intros; omega) | (intros; exact And.intro (by assumption) (by omega)) | grind) ?_)
      refine DoL.callg true 941 rfl rfl rfl rfl rfl (by simp [go_sem] <;> omega) (fun _ => s2) rfl (by first | exact .inl rfl | exact .inr rfl) rfl ?_
      simp [go_sem]
      repeat (refine And.intro (by first | omega | (intros; omega) | (intros; exact And.intro (by assumption) (by omega)) | grind) ?_)
      refine DoL.callg true 946 rfl rfl rfl rfl rfl (by simp [go_sem] <;> omega) (fun _ => s3) rfl (by first | exact .inl rfl | exact .inr rfl) rfl ?_
      simp [go_sem]
      refine DoL.callg true 949 rfl rfl rfl rfl rfl (by simp [go_sem] <;> omega) (fun _ => awake18_does) rfl (by first | exact .inl rfl | exact .inr rfl) rfl ?_
      simp [go_sem]
      apply k10_; clear k10_
      refine Do.ret ?_
      simp [endQ, rets, ret1, go_sem]
      repeat (refine And.intro (by first | omega | (intros; omega) | (intros; exact And.intro (by assumption) (by omega)) | grind) ?_)
      exact TLe.refl _
    · generalize argsE f p r false [x, y, z] = ae at *
      refine Does.of (nt := 143) Tryd.func3 rfl rfl rfl (by simp) ?_
      simp only [argTm, PV.ext, Ce.ext]
      refine Do.seqk fun _ k1_ => ?_
      refine Do.region [1,5,7,8,9] true ?_
      simp [go_sem]
      apply k1_; clear k1_
      refine Do.seqk fun _ k2_ => ?_
      refine Do.seqk fun _ k3_ => ?_
      refine Do.region [1,5,7,8,9,42] true ?_
      simp [go_sem]
      repeat (refine And.intro (by first | omega | (intros; omega) | (intros; exact And.intro (by assumption) (by omega)) | grind) ?_)
      refine DoL.sealS true 104 103 rfl ?_
      simp [go_sem]
      refine DoL.call true 105 rfl rfl rfl rfl (by first | exact trivial | omega | (simp; done) | (simp; omega)) (hS) rfl (by first | exact .inl rfl | exact .inr rfl) rfl ?_
      simp [go_sem]
      repeat (refine And.intro (by first | omega | (intros; omega) | (intros; exact And.intro (by assumption) (by omega)) | grind) ?_)
      refine DoL.gOn true 112 rfl rfl [36, 37, 38] (by simp [go_sem]) ?_
      simp [go_sem]
      refine DoL.sealS true 113 112 rfl ?_
      simp [go_sem]
      refine DoL.callg true 114 rfl rfl rfl rfl rfl (by simp [go_sem] <;> omega) (fun _ => hA) rfl (by first | exact .inl rfl | exact .inr rfl) rfl ?_
      simp [go_sem]
      apply k3_; clear k3_
      refine Do.cond [1,5,7,8,9] rfl (fun h5 => ?_) (fun h5 => ?_) <;> simp [go_sem] at h5 ⊢
      · refine Do.seqk fun _ k4_ => ?_
        refine Do.region [10] true ?_
        simp [go_sem]
        refine DoL.call true 201 rfl rfl rfl rfl (by first | exact trivial | omega | (simp; done) | (simp; omega)) (awake18_does) rfl (by first | exact .inl rfl | exact .inr rfl) rfl ?_
        simp [go_sem]
        apply k4_; clear k4_
        refine Do.ret ?_
        simp [endQ, rets, ret1, go_sem]
        repeat (refine And.intro (by first | omega | (intros; omega) | (intros; exact And.intro (by assumption) (by omega)) | grind) ?_)
        exact TLe.refl _
      · exact absurd h5 he
end Go.Proofs.YthpkhmbjmnhmoaaDoor
/- A shift of a signed number to the right. No condition. -/
namespace Go.Proofs.YthpkhmbjmnhmoaaDoor
set_option linter.unusedVariables false
set_option linter.unusedSimpArgs false
section
variable {P : Program} {G : Gl} {nt : Nat} {st : St} {cx : Cx} {a : Act} {W W' : World} {m : Nat → Option Nat} {QE : Exit → St → Prop} {ops l : List Oper} {Q : St → Prop}
theorem DoL.shrI {o : Oper} {x y : Operand} {t t' : TypeId} {u : Int} {b : Nat} (md : Bool) (lab : Nat) (hg : o.guard = none) (hop : o.op = .binOp .shr t x y t') (hx : opv st.tm x = some (.v (.c (.i .i64 u)))) (hy : opv st.tm y = some (.v (.c (.n b)))) (hb : b < 64) (hd : dstOk nt o.dst = true)
    (next : runs P G nt md ops Q lab l ⟨setv o.dst (some (.int .i64 (u / 2 ^ b))) st.tm, st.ob⟩) : DoL P G nt ops (o :: l) st Q := by
  intro cx a W hn ⟨m, hr⟩ Q' hQ
  refine wpList_plain hg fun K hK => ?_
  unfold Oper.wp
  have hxv : a.eval x = .int .i64 u := rt_i (hr.opv hx)
  have hyv : a.eval y = .int .u64 b := rt_n (hr.opv hy)
  have hexec : (execOp a.eval o).run P W = .ok (.value (.int .i64 (u / 2 ^ b))) W := by
    have h1 : (binOp .shr t (.int .i64 u) (.int .u64 b)).run P W = .ok (.int .i64 (u / 2 ^ b)) W := by
      simp [binOp, Op.shift, IntKind.bits, show ¬ (b : Int) < 0 by omega]
    simp [execOp, hop, hxv, hyv, eqGuard, h1]
  rw [hexec]
  exact hK _ _ (DoL.run next cx _ _ hn (Rel.put hr hn hd (x := .int .i64 (u / 2 ^ b)) (show _ = _ from rfl)) Q' hQ)
end
end Go.Proofs.YthpkhmbjmnhmoaaDoor
/- Powers. No condition. -/
namespace Go.Proofs.YthpkhmbjmnhmoaaDoor
set_option linter.unusedVariables false
set_option linter.unusedSimpArgs false
set_option maxHeartbeats 4000000
set_option maxRecDepth 10000
theorem pow_half (b k : Nat) : b ^ k = (b * b) ^ (k / 2) * b ^ (k % 2) := by
  conv => lhs; rw [← Nat.div_add_mod k 2, Nat.pow_add, Nat.pow_mul, Nat.pow_two]
theorem pow_le_self {b k : Nat} (hb : 0 < b) (hk : 0 < k) : b ≤ b ^ k := by
  obtain ⟨m, rfl⟩ : ∃ m, k = m + 1 := ⟨k - 1, by omega⟩
  rw [Nat.pow_succ]
  exact Nat.le_mul_of_pos_left _ (Nat.pow_pos hb)
/-- What holds within the loop of a power. -/
structure PowI (T k o b : Nat) : Prop where
  eq : o * b ^ k = T
  o : 0 < o
  b : 0 < b
theorem PowI.small {T k o b : Nat} (h : PowI T k o b) (hk : 0 < k) : o ≤ T ∧ b ≤ T ∧ o * b ≤ T ∧ (1 < k → b * b ≤ T) := by
  have h1 := pow_le_self h.b hk
  have hp := Nat.pow_pos (n := k) h.b
  have h2 : o ≤ o * b ^ k := Nat.le_mul_of_pos_right _ hp
  have h3 : b ^ k ≤ o * b ^ k := Nat.le_mul_of_pos_left _ h.o
  have h4 : o * b ≤ o * b ^ k := Nat.mul_le_mul_left _ h1
  rw [h.eq] at h2 h3 h4
  refine ⟨h2, by omega, h4, fun hk2 => ?_⟩
  have : b ^ 2 ≤ b ^ k := Nat.pow_le_pow_right h.b (by omega)
  rw [Nat.pow_two] at this
  omega
theorem PowI.odd {T k o b : Nat} (h : PowI T k o b) (hk : k % 2 = 1) : PowI T (k / 2) (o * b) (b * b) := by
  refine ⟨?_, Nat.mul_pos h.o h.b, Nat.mul_pos h.b h.b⟩
  rw [← h.eq, pow_half b k, hk, Nat.pow_one]
  rw [Nat.mul_assoc, Nat.mul_comm b]
theorem PowI.even {T k o b : Nat} (h : PowI T k o b) (hk : k % 2 = 0) : PowI T (k / 2) o (b * b) := by
  refine ⟨?_, h.o, Nat.mul_pos h.b h.b⟩
  rw [← h.eq, pow_half b k, hk, Nat.pow_zero, Nat.mul_one]
theorem PowI.last {T k o b b' : Nat} (h : PowI T (k / 2) o b) (hk : k ≤ 1) (hb : 0 < b') : PowI T (k / 2) o b' := by
  have : k / 2 = 0 := by omega
  rw [this] at h ⊢
  exact ⟨by have := h.eq; simpa using this, h.o, hb⟩
theorem WPow_does {v n : Nat} (hv : 0 < v) (hb : bl (v ^ n) ≤ 1000000) (hn : n ≤ 1000) : Does Tryd.prog Gv 33 [Wd (nat v), .c (.i .i64 n)] (.v (Wn (nat (v ^ n)))) := by
  obtain ⟨T, hT⟩ : ∃ T, v ^ n = T := ⟨_, rfl⟩
  have h0 : PowI T n 1 v := ⟨by rw [Nat.one_mul, hT], by omega, hv⟩
  have hlen : ∀ u, u ≤ T → (nat u).length < 536870912 := fun u hu => by
    have h1 := bl_mono hu
    have h2 := nat_len_bl u
    rw [hT] at hb
    omega
  rw [hT]
  clear hT hb
  refine Does.of (nt := 25) Tryd.func33 rfl rfl rfl (by simp) ?_
  simp only [argTm, PV.ext, Ce.ext]
  refine Do.seqk fun _ k1_ => ?_
  refine Do.region [0,1] true ?_
  simp [go_sem]
  apply k1_; clear k1_
  refine Do.seqk fun _ k2_ => ?_
  refine Do.region [0,1,5] true ?_
  simp [go_sem]
  apply k2_; clear k2_
  refine Do.seqk fun _ k3_ => ?_
  refine Do.seqk fun _ k4_ => ?_
  refine Do.frz 100 rfl ?_
  simp [go_sem]
  refine Do.region [1,5,6] true ?_
  simp [go_sem]
  apply k4_; clear k4_
  refine Do.block ?_
  refine Do.loopF [1,5,6] (fun (s : Nat × Nat × Nat) => [(1, .int .i64 s.1), (5, .v (Wn (nat s.2.1))), (6, .v (Wd (nat s.2.2)))]) (fun (s : Nat × Nat × Nat) => []) (fun (s : Nat × Nat × Nat) => s.1 ≤ n ∧ PowI T s.1 s.2.1 s.2.2) (fun (s : Nat × Nat × Nat) => s.1) ((n, 1, v)) (fun _ => by first | (simp [go_sem, mixS]; done) | (simp [go_sem, mixS]; rfl)) (St.le_of (by simp [keep, nat_one]) (by simp [keep])) (⟨Nat.le_refl _, h0⟩) ?_
  rintro ⟨k, o, b⟩ ⟨hk, hI⟩
  simp only [] at hk hI
  refine Do.seqk fun _ k5_ => ?_
  refine Do.seqk fun _ k6_ => ?_
  refine Do.region [1,5,6,10] true ?_
  simp [go_sem]
  apply k6_; clear k6_
  refine Do.cond [1,5,6] rfl (fun h1 => ?_) (fun h1 => ?_) <;> simp [go_sem] at h1 ⊢
  · have hpos : 0 < k := by omega
    obtain ⟨s1, s2, s3, s4⟩ := hI.small hpos
    have hM1 := @WMul_does Gv (nat o) (nat b) (hlen o s1) (hlen b s2) (nat_ws _) (nat_ws _)
    rw [val_nat, val_nat] at hM1
    have hM2 : Does Tryd.prog Gv 61 [Wd (nat b), Wd (nat b)] (.v (Wd (nat (b * b)))) := by
      have := @WMul_does Gv (nat b) (nat b) (hlen b s2) (hlen b s2) (nat_ws _) (nat_ws _)
      rw [val_nat] at this
      exact this.mono (TLe.v (PLe.ext (.c (.w true _))))
    have hkm : (k : Int) ≤ 9223372036854775807 := by omega
    refine Do.skip ?_
    simp [go_sem]
    apply k5_; clear k5_
    refine Do.seqk fun _ k7_ => ?_
    refine Do.block ?_
    refine Do.seqk fun _ k8_ => ?_
    refine Do.seqk fun _ k9_ => ?_
    refine Do.region [1,5,6,15] true ?_
    simp [go_sem, hkm]
    apply k9_; clear k9_
    refine Do.cond [1,5,6] rfl (fun h2 => ?_) (fun h2 => ?_) <;> simp [go_sem, hkm] at h2 ⊢
    · have hI2 := hI.odd (by omega)
      refine Do.region [1,5,6] true ?_
      simp [go_sem, hkm]
      refine DoL.call true 603 rfl rfl rfl rfl (by first | exact trivial | omega | (simp; done) | (simp; omega)) (hM1) rfl (by first | exact .inl rfl | exact .inr rfl) rfl ?_
      simp [go_sem, hkm]
      apply k8_; clear k8_
      refine Do.seqk fun _ k10_ => ?_
      refine Do.region [1,5,6,20] true ?_
      simp [go_sem, hkm]
      apply k10_; clear k10_
      refine Do.cond [1,5,6] rfl (fun h3 => ?_) (fun h3 => ?_) <;> simp [go_sem, hkm] at h3 ⊢
      · refine Do.region [1,5,6] true ?_
        simp [go_sem, hkm]
        refine DoL.call true 803 rfl rfl rfl rfl (by first | exact trivial | omega | (simp; done) | (simp; omega)) (hM2) rfl (by first | exact .inl rfl | exact .inr rfl) rfl ?_
        simp [go_sem, hkm]
        apply k7_; clear k7_
        refine Do.region [1,5,6] true ?_
        simp [go_sem, hkm]
        repeat (refine And.intro (by first | omega | (intros; omega) | (intros; exact And.intro (by assumption) (by omega)) | grind) ?_)
        refine DoL.shrI true 402 rfl rfl rfl rfl (by decide) rfl ?_
        simp [go_sem]
        refine ⟨(k / 2, o * b, b * b), St.le_of (by first | rfl | simp [keep]) (by first | rfl | simp [keep]), ⟨by omega, hI2⟩, by simp; omega⟩
      · refine Do.skip ?_
        simp [go_sem]
        apply k7_; clear k7_
        refine Do.region [1,5,6] true ?_
        simp [go_sem, hkm]
        repeat (refine And.intro (by first | omega | (intros; omega) | (intros; exact And.intro (by assumption) (by omega)) | grind) ?_)
        refine DoL.shrI true 402 rfl rfl rfl rfl (by decide) rfl ?_
        simp [go_sem]
        refine ⟨(k / 2, o * b, b), St.le_of (by first | rfl | simp [keep]) (by first | rfl | simp [keep]), ⟨by omega, hI2.last (by omega) hI.b⟩, by simp; omega⟩
    · have hI2 := hI.even (by omega)
      refine Do.skip ?_
      simp [go_sem]
      apply k8_; clear k8_
      refine Do.seqk fun _ k11_ => ?_
      refine Do.region [1,5,6,20] true ?_
      simp [go_sem, hkm]
      apply k11_; clear k11_
      refine Do.cond [1,5,6] rfl (fun h3 => ?_) (fun h3 => ?_) <;> simp [go_sem, hkm] at h3 ⊢
      · refine Do.region [1,5,6] true ?_
        simp [go_sem, hkm]
        refine DoL.call true 803 rfl rfl rfl rfl (by first | exact trivial | omega | (simp; done) | (simp; omega)) (hM2) rfl (by first | exact .inl rfl | exact .inr rfl) rfl ?_
        simp [go_sem, hkm]
        apply k7_; clear k7_
        refine Do.region [1,5,6] true ?_
        simp [go_sem, hkm]
        repeat (refine And.intro (by first | omega | (intros; omega) | (intros; exact And.intro (by assumption) (by omega)) | grind) ?_)
        refine DoL.shrI true 402 rfl rfl rfl rfl (by decide) rfl ?_
        simp [go_sem]
        refine ⟨(k / 2, o, b * b), St.le_of (by first | rfl | simp [keep]) (by first | rfl | simp [keep]), ⟨by omega, hI2⟩, by simp; omega⟩
      · refine Do.skip ?_
        simp [go_sem]
        apply k7_; clear k7_
        refine Do.region [1,5,6] true ?_
        simp [go_sem, hkm]
        repeat (refine And.intro (by first | omega | (intros; omega) | (intros; exact And.intro (by assumption) (by omega)) | grind) ?_)
        refine DoL.shrI true 402 rfl rfl rfl rfl (by decide) rfl ?_
        simp [go_sem]
        refine ⟨(k / 2, o, b), St.le_of (by first | rfl | simp [keep]) (by first | rfl | simp [keep]), ⟨by omega, hI2.last (by omega) hI.b⟩, by simp; omega⟩
  · refine Do.exit ?_
    simp [go_sem]
    apply k3_; clear k3_
    refine Do.seqk fun _ k12_ => ?_
    refine Do.region [4] true ?_
    simp [go_sem]
    apply k12_; clear k12_
    refine Do.ret ?_
    simp [endQ, rets, ret1, go_sem]
    repeat (refine And.intro (by first | omega | (intros; omega) | (intros; exact And.intro (by assumption) (by omega)) | grind) ?_)
    obtain rfl : k = 0 := by omega
    have := hI.eq
    simp at this
    rw [this]
    exact TLe.refl _
end Go.Proofs.YthpkhmbjmnhmoaaDoor
/- The law ProductPowers. No condition. -/
namespace Go.Proofs.YthpkhmbjmnhmoaaDoor
set_option linter.unusedVariables false
set_option linter.unusedSimpArgs false
set_option maxHeartbeats 4000000
set_option maxRecDepth 10000
/-- A power of a canonical float. -/
def powR (f p r : Int) (x : Flt) (n : Nat) : Flt × Int :=
  if x.k = 3 then (⟨3, false, 0, 0⟩, 0) else if n = 0 then (⟨1, false, 0, 1⟩, 0) else if x.k ≠ 1 then (⟨x.k, x.n && ((n : Int) % 2 == 1), 0, 0⟩, 0)
  else roundP f p r (x.n && ((n : Int) % 2 == 1)) (x.v ^ n) (x.e * n) false
theorem powR_fine {f p r : Int} (hf : fmOk f p = true) {x : Flt} (hk : K4 x) {n : Nat} : rcanon (powR f p r x n).1 = (powR f p r x n).1 ∧ Fine (powR f p r x n).1 := by
  unfold powR
  split
  · exact ⟨rfl, fine_nan⟩
  · split
    · exact ⟨by kernel_rfl, fine_one (by decide) (by kernel_rfl) (by decide) (by decide) (by decide)⟩
    · split
      · rename_i h1 h2 h3
        rcases hk with h | h | h | h
        · rw [h]; exact ⟨rfl, fine_zero⟩
        · exact absurd h h3
        · rw [h]; exact ⟨rfl, fine_inf⟩
        · exact absurd h h1
      · exact ⟨roundP_fix hf, roundP_fine hf⟩
/-- A float small enough for powers. -/
structure Pw (x : Flt) : Prop where
  cf : Cf x
  nan : x.k = 3 → x.n = false
  lo : x.k = 1 → -20000 ≤ x.e
  hi : x.k = 1 → x.e ≤ 20000
  v : bl x.v ≤ 256
theorem held_pw {f p : Int} (hf : fmOk f p = true) {x : Flt} (h : (holdsP f p x).2 = true) : Pw (holdsP f p x).1 := by
  obtain ⟨b1, b2, b3, b4⟩ := fmOk_spec hf
  obtain ⟨b5, b6⟩ := gOfE_le b1 b2
  have hs := held_small hf h
  refine ⟨held_cf h, by rw [← (held_rcanon h).1, rcanon_k, rcanon_n]; exact (canon_kind (held_rcanon h).2).2, fun hk => ?_, fun hk => ?_, hs.2.2.1⟩
  · have : tiny f p ≤ (holdsP f p x).1.e := by
      unfold holdsP at *
      split at h
      · rename_i hc
        rw [if_pos hc] at hk
        rcases hc with hc | hc
        · rw [h] at hc; cases hc
        · exact absurd hk hc
      · rename_i hc
        rw [if_neg hc]
        simp only [Bool.and_eq_true, decide_eq_true_eq] at h
        exact h.1.2
    have htn : tiny f p = 1 - gOfE f - (p - 1) := rfl
    omega
  · have := hs.2.2.2 hk
    omega
theorem pow_bl {v n : Nat} (h : bl v ≤ 256) (hn : n ≤ 64) : bl (v ^ n) ≤ 20000 := by
  obtain ⟨K, hK⟩ : ∃ K, K = 256 := ⟨_, rfl⟩
  have h1 : v < 2 ^ K := (bl_lt _ _).1 (by omega)
  have h2 : v ^ n ≤ (2 ^ K) ^ n := Nat.pow_le_pow_left (Nat.le_of_lt h1) n
  rw [← Nat.pow_mul] at h2
  have h3 : bl (v ^ n) ≤ K * n + 1 := by
    rw [bl_lt, Nat.pow_succ]
    have := Nat.pow_pos (n := K * n) (show 0 < 2 by decide)
    omega
  have : K * n ≤ 256 * 64 := by rw [hK]; exact Nat.mul_le_mul_left _ hn
  omega
theorem pow_e {e : Int} {n : Nat} (h1 : -20000 ≤ e) (h2 : e ≤ 20000) (hn : n ≤ 64) : -1300000 ≤ e * n ∧ e * n ≤ 1300000 := by
  have a1 : -20000 * (n : Int) ≤ e * n := Int.mul_le_mul_of_nonneg_right h1 (by omega)
  have a2 : e * n ≤ 20000 * n := Int.mul_le_mul_of_nonneg_right h2 (by omega)
  omega
/-- What Power answers. -/
def powA (f p r : Int) (x : Fla) (n : Int) : Flt × Int × Int :=
  if argsE f p r (decide (n < 0) || decide (64 < n)) [x] = 0 then ((powR f p r (holdsP f p x.flt).1 n.toNat).1, (powR f p r (holdsP f p x.flt).1 n.toNat).2, 0) else (⟨0, false, 0, 0⟩, 0, argsE f p r (decide (n < 0) || decide (64 < n)) [x])
theorem PPower_does {f p r n : Int} {x : Fla} (hx : x.Ok) : Does Tryd.prog Gv 14 [Fm f p, .c (.i .i64 r), Fl x.k x.n x.e x.m, .c (.i .i64 n)] (Res (powA f p r x n)) := by
  generalize hz : powA f p r x n = z
  unfold powA at hz
  have hl : [x].length < 1099511627776 := by simp
  have ho : ∀ u ∈ [x], u.Ok := by simp [hx]
  by_cases he : argsE f p r (decide (n < 0) || decide (64 < n)) [x] = 0
  · rw [if_pos he] at hz
    have hA : DoesO Tryd.prog Gv 25 [Fm f p, .c (.i .i64 r), .c (.b (decide (n < 0) || decide (64 < n))), .s false [x.cs]] 4 [(holdsP f p x.flt).1.cs] [.c (.i .i64 0)] := Args_own hl ho he
    obtain ⟨h1, h2, h3, h4, h5, h6⟩ := argsE_zero he
    have hw := held_pw h5 (x := x.flt) (by simpa using List.all_eq_true.1 h6 x (by simp))
    rw [h4] at hA
    have hn : 0 ≤ n ∧ n ≤ 64 := by simp at h4; omega
    obtain ⟨N, rfl⟩ : ∃ N : Nat, n = N := ⟨n.toNat, by omega⟩
    rw [Int.toNat_natCast] at hz
    have d1 : ¬ (N : Int) < 0 := by omega
    have d2 : ¬ (64 : Int) < N := by omega
    have htm : (N : Int).tmod 2 = (N : Int) % 2 := Int.tmod_eq_emod_of_nonneg (by omega)
    generalize (holdsP f p x.flt).1 = a at *
    have hfx := hw.cf.fix
    unfold powR at hz
    have hMk := @Make_does false [1] 0 (by simp [Sh]) (fun w hw => by simp at hw; omega) (by omega) (by omega)
    rw [show val [1] = 1 from rfl, show mkP false 1 0 = ⟨1, false, 0, 1⟩ by kernel_rfl] at hMk
    by_cases hk : a.k = 1
    · have hv := hw.cf.pos hk
      have hbl := pow_bl hw.v (show N ≤ 64 by omega)
      have hee := pow_e (hw.lo hk) (hw.hi hk) (show N ≤ 64 by omega)
      have hP := @WPow_does a.v N (by omega) (by omega) (by omega)
      have hF := @Float_does f p r h5 h2 h3 (a.n && ((N : Int) % 2 == 1)) (a.v ^ N) (a.e * N) false (by omega) (by omega)
      rw [if_neg (by omega)] at hz
      by_cases hN : N = 0
      · subst hN
        rw [if_pos rfl] at hz
        refine Does.of (nt := 79) Tryd.func14 rfl rfl rfl (by simp) ?_
        simp only [argTm, PV.ext, Ce.ext]
        refine Do.seqk fun _ k1_ => ?_
        refine Do.region [1,3,4,6,8] true ?_
        simp [go_sem, d1, d2, htm]
        apply k1_; clear k1_
        refine Do.seqk fun _ k2_ => ?_
        refine Do.region [1,3,4,6,8,11,12] true ?_
        simp [go_sem, d1, d2, htm]
        repeat (refine And.intro (by first | omega | (intros; omega) | (intros; exact And.intro (by assumption) (by omega)) | grind) ?_)
        refine DoL.sealS true 110 109 rfl ?_
        simp [go_sem]
        refine DoL.callO true 111 3000 rfl rfl rfl rfl (by first | exact trivial | omega | (simp; done) | (simp; omega)) (hA) rfl rfl rfl ?_
        simp [go_sem, d1, d2, htm]
        apply k2_; clear k2_
        refine Do.seqk fun _ k3_ => ?_
        refine Do.seqk fun _ k4_ => ?_
        refine Do.region [1,3,4,6,8,11,12,31] true ?_
        simp [go_sem, d1, d2, htm]
        apply k4_; clear k4_
        refine Do.cond [1,3,4,6,8,11,12] rfl (fun h => ?_) (fun h => ?_) <;> simp [go_sem, d1, d2, htm] at h ⊢
        refine Do.skip ?_
        simp [go_sem]
        apply k3_; clear k3_
        refine Do.seqk fun _ k5_ => ?_
        refine Do.sealS 3000 rfl ?_
        simp [go_sem]
        refine Do.region [1,3,4,6,8] true ?_
        simp [go_sem, d1, d2, htm]
        repeat (refine And.intro (by first | omega | (intros; omega) | (intros; exact And.intro (by assumption) (by omega)) | grind) ?_)
        apply k5_; clear k5_
        refine Do.seqk fun _ k6_ => ?_
        refine Do.region [1,3,4,6,8,13] true ?_
        simp [go_sem, d1, d2, htm]
        repeat (refine And.intro (by first | omega | (intros; omega) | (intros; exact And.intro (by assumption) (by omega)) | grind) ?_)
        apply k6_; clear k6_
        refine Do.seqk fun _ k7_ => ?_
        refine Do.block ?_
        refine Do.seqk fun _ k8_ => ?_
        refine Do.region [1,3,4,6,8,13,44] true ?_
        simp [go_sem, d1, d2, htm]
        repeat (refine And.intro (by first | omega | (intros; omega) | (intros; exact And.intro (by assumption) (by omega)) | grind) ?_)
        apply k8_; clear k8_
        refine Do.cond [1,3,4,6,8,13] rfl (fun h3 => ?_) (fun h3 => ?_) <;> simp [go_sem, d1, d2, htm] at h3 ⊢
        · omega
        · refine Do.seqk fun _ k9_ => ?_
          refine Do.region [1,3,4,6,8,13,49] true ?_
          simp [go_sem, d1, d2, htm]
          apply k9_; clear k9_
          refine Do.cond [1,3,4,6,8,13] rfl (fun h4 => ?_) (fun h4 => ?_) <;> simp [go_sem, d1, d2, htm] at h4 ⊢
          refine Do.seqk fun _ k10_ => ?_
          refine Do.region [8,9,10] true ?_
          simp [go_sem, d1, d2, htm]
          refine DoL.frz true 901 900 rfl ?_
          simp [go_sem]
          refine DoL.call true 902 rfl rfl rfl rfl (by first | exact trivial | omega | (simp; done) | (simp; omega)) (hMk) rfl (by first | exact .inl rfl | exact .inr rfl) rfl ?_
          simp [go_sem, d1, d2, htm]
          repeat (refine And.intro (by first | omega | (intros; omega) | (intros; exact And.intro (by assumption) (by omega)) | grind) ?_)
          apply k10_; clear k10_
          refine Do.ret ?_
          simp [endQ, rets, ret1, go_sem, d1, d2, htm]
          repeat (refine And.intro (by first | omega | (intros; omega) | (intros; exact And.intro (by assumption) (by omega)) | grind) ?_)
          subst hz
          exact TLe.refl _
      · rw [if_neg hN, if_neg (by omega)] at hz
        generalize roundP f p r (a.n && ((N : Int) % 2 == 1)) (a.v ^ N) (a.e * N) false = q at *
        generalize a.v ^ N = T at *
        generalize hE : a.e * N = E at *
        refine Does.of (nt := 79) Tryd.func14 rfl rfl rfl (by simp) ?_
        simp only [argTm, PV.ext, Ce.ext]
        refine Do.seqk fun _ k1_ => ?_
        refine Do.region [1,3,4,6,8] true ?_
        simp [go_sem, d1, d2, htm, hE]
        apply k1_; clear k1_
        refine Do.seqk fun _ k2_ => ?_
        refine Do.region [1,3,4,6,8,11,12] true ?_
        simp [go_sem, d1, d2, htm, hE]
        repeat (refine And.intro (by first | omega | (intros; omega) | (intros; exact And.intro (by assumption) (by omega)) | grind) ?_)
        refine DoL.sealS true 110 109 rfl ?_
        simp [go_sem]
        refine DoL.callO true 111 3000 rfl rfl rfl rfl (by first | exact trivial | omega | (simp; done) | (simp; omega)) (hA) rfl rfl rfl ?_
        simp [go_sem, d1, d2, htm, hE]
        apply k2_; clear k2_
        refine Do.seqk fun _ k3_ => ?_
        refine Do.seqk fun _ k4_ => ?_
        refine Do.region [1,3,4,6,8,11,12,31] true ?_
        simp [go_sem, d1, d2, htm, hE]
        apply k4_; clear k4_
        refine Do.cond [1,3,4,6,8,11,12] rfl (fun h => ?_) (fun h => ?_) <;> simp [go_sem, d1, d2, htm, hE] at h ⊢
        refine Do.skip ?_
        simp [go_sem]
        apply k3_; clear k3_
        refine Do.seqk fun _ k5_ => ?_
        refine Do.sealS 3000 rfl ?_
        simp [go_sem]
        refine Do.region [1,3,4,6,8] true ?_
        simp [go_sem, d1, d2, htm, hE]
        repeat (refine And.intro (by first | omega | (intros; omega) | (intros; exact And.intro (by assumption) (by omega)) | grind) ?_)
        apply k5_; clear k5_
        refine Do.seqk fun _ k6_ => ?_
        refine Do.region [1,3,4,6,8,13] true ?_
        simp [go_sem, d1, d2, htm, hE]
        repeat (refine And.intro (by first | omega | (intros; omega) | (intros; exact And.intro (by assumption) (by omega)) | grind) ?_)
        apply k6_; clear k6_
        refine Do.seqk fun _ k7_ => ?_
        refine Do.block ?_
        refine Do.seqk fun _ k8_ => ?_
        refine Do.region [1,3,4,6,8,13,44] true ?_
        simp [go_sem, d1, d2, htm, hE]
        repeat (refine And.intro (by first | omega | (intros; omega) | (intros; exact And.intro (by assumption) (by omega)) | grind) ?_)
        apply k8_; clear k8_
        refine Do.cond [1,3,4,6,8,13] rfl (fun h3 => ?_) (fun h3 => ?_) <;> simp [go_sem, d1, d2, htm, hE] at h3 ⊢
        · omega
        · refine Do.seqk fun _ k9_ => ?_
          refine Do.region [1,3,4,6,8,13,49] true ?_
          simp [go_sem, d1, d2, htm, hE]
          apply k9_; clear k9_
          refine Do.cond [1,3,4,6,8,13] rfl (fun h4 => ?_) (fun h4 => ?_) <;> simp [go_sem, d1, d2, htm, hE] at h4 ⊢
          · omega
          · refine Do.seqk fun _ k10_ => ?_
            refine Do.region [1,3,4,6,8,13,54] true ?_
            simp [go_sem, d1, d2, htm, hE]
            repeat (refine And.intro (by first | omega | (intros; omega) | (intros; exact And.intro (by assumption) (by omega)) | grind) ?_)
            apply k10_; clear k10_
            refine Do.cond [1,3,4,6,8,13] rfl (fun h5 => ?_) (fun h5 => ?_) <;> simp [go_sem, d1, d2, htm, hE] at h5 ⊢
            · omega
            · refine Do.skip ?_
              simp [go_sem]
              apply k7_; clear k7_
              refine Do.seqk fun _ k11_ => ?_
              refine Do.draw [8,14,15] true (by kernel_rfl) ?_
              simp [go_sem, d1, d2, htm, hE]
              repeat (refine And.intro (by first | omega | (intros; omega) | (intros; exact And.intro (by assumption) (by omega)) | kernel_rfl | grind) ?_)
              refine DoLD.call true 1207 rfl rfl rfl rfl (by first | exact trivial | omega | (simp; done) | (simp; omega)) (hP) rfl (by first | exact .inl rfl | exact .inr rfl) rfl ?_
              simp [go_sem, d1, d2, htm, hE]
              repeat (refine And.intro (by first | omega | (intros; omega) | (intros; exact And.intro (by assumption) (by omega)) | kernel_rfl | grind) ?_)
              refine DoLD.call true 1212 rfl rfl rfl rfl (by first | exact trivial | omega | (simp; done) | (simp; omega)) (hF) rfl (by first | exact .inl rfl | exact .inr rfl) rfl ?_
              simp [go_sem, d1, d2, htm, hE]
              repeat (refine And.intro (by first | omega | (intros; omega) | (intros; exact And.intro (by assumption) (by omega)) | kernel_rfl | grind) ?_)
              try (refine And.intro (by kernel_rfl) ?_)
              apply k11_; clear k11_
              refine Do.seqk fun _ k12_ => ?_
              refine Do.region [8,9,10] true ?_
              simp [go_sem, d1, d2, htm, hE]
              repeat (refine And.intro (by first | omega | (intros; omega) | (intros; exact And.intro (by assumption) (by omega)) | grind) ?_)
              apply k12_; clear k12_
              refine Do.ret ?_
              simp [endQ, rets, ret1, go_sem, d1, d2, htm, hE]
              repeat (refine And.intro (by first | omega | (intros; omega) | (intros; exact And.intro (by assumption) (by omega)) | grind) ?_)
              subst hz
              exact TLe.refl _
    · by_cases hN : a.k = 3
      · rw [if_pos hN] at hz
        refine Does.of (nt := 79) Tryd.func14 rfl rfl rfl (by simp) ?_
        simp only [argTm, PV.ext, Ce.ext]
        refine Do.seqk fun _ k1_ => ?_
        refine Do.region [1,3,4,6,8] true ?_
        simp [go_sem, d1, d2, htm]
        apply k1_; clear k1_
        refine Do.seqk fun _ k2_ => ?_
        refine Do.region [1,3,4,6,8,11,12] true ?_
        simp [go_sem, d1, d2, htm]
        repeat (refine And.intro (by first | omega | (intros; omega) | (intros; exact And.intro (by assumption) (by omega)) | grind) ?_)
        refine DoL.sealS true 110 109 rfl ?_
        simp [go_sem]
        refine DoL.callO true 111 3000 rfl rfl rfl rfl (by first | exact trivial | omega | (simp; done) | (simp; omega)) (hA) rfl rfl rfl ?_
        simp [go_sem, d1, d2, htm]
        apply k2_; clear k2_
        refine Do.seqk fun _ k3_ => ?_
        refine Do.seqk fun _ k4_ => ?_
        refine Do.region [1,3,4,6,8,11,12,31] true ?_
        simp [go_sem, d1, d2, htm]
        apply k4_; clear k4_
        refine Do.cond [1,3,4,6,8,11,12] rfl (fun h => ?_) (fun h => ?_) <;> simp [go_sem, d1, d2, htm] at h ⊢
        refine Do.skip ?_
        simp [go_sem]
        apply k3_; clear k3_
        refine Do.seqk fun _ k5_ => ?_
        refine Do.sealS 3000 rfl ?_
        simp [go_sem]
        refine Do.region [1,3,4,6,8] true ?_
        simp [go_sem, d1, d2, htm]
        repeat (refine And.intro (by first | omega | (intros; omega) | (intros; exact And.intro (by assumption) (by omega)) | grind) ?_)
        apply k5_; clear k5_
        refine Do.seqk fun _ k6_ => ?_
        refine Do.region [1,3,4,6,8,13] true ?_
        simp [go_sem, d1, d2, htm]
        repeat (refine And.intro (by first | omega | (intros; omega) | (intros; exact And.intro (by assumption) (by omega)) | grind) ?_)
        apply k6_; clear k6_
        refine Do.seqk fun _ k7_ => ?_
        refine Do.block ?_
        refine Do.seqk fun _ k8_ => ?_
        refine Do.region [1,3,4,6,8,13,44] true ?_
        simp [go_sem, d1, d2, htm]
        repeat (refine And.intro (by first | omega | (intros; omega) | (intros; exact And.intro (by assumption) (by omega)) | grind) ?_)
        apply k8_; clear k8_
        refine Do.cond [1,3,4,6,8,13] rfl (fun h3 => ?_) (fun h3 => ?_) <;> simp [go_sem, d1, d2, htm] at h3 ⊢
        · refine Do.seqk fun _ k9_ => ?_
          refine Do.region [8,9,10] true ?_
          simp [go_sem, d1, d2, htm]
          repeat (refine And.intro (by first | omega | (intros; omega) | (intros; exact And.intro (by assumption) (by omega)) | grind) ?_)
          apply k9_; clear k9_
          refine Do.ret ?_
          simp [endQ, rets, ret1, go_sem, d1, d2, htm]
          repeat (refine And.intro (by first | omega | (intros; omega) | (intros; exact And.intro (by assumption) (by omega)) | grind) ?_)
          subst hz
          have h7 := hw.nan hN
          have h8 := hw.cf.fix
          unfold rcanon at h8
          rw [if_neg (by omega)] at h8
          rw [← h8, hN, h7]
          exact TLe.refl _
        · omega
      · rw [if_neg hN] at hz
        by_cases hN0 : N = 0
        · subst hN0
          rw [if_pos rfl] at hz
          refine Does.of (nt := 79) Tryd.func14 rfl rfl rfl (by simp) ?_
          simp only [argTm, PV.ext, Ce.ext]
          refine Do.seqk fun _ k1_ => ?_
          refine Do.region [1,3,4,6,8] true ?_
          simp [go_sem, d1, d2, htm]
          apply k1_; clear k1_
          refine Do.seqk fun _ k2_ => ?_
          refine Do.region [1,3,4,6,8,11,12] true ?_
          simp [go_sem, d1, d2, htm]
          repeat (refine And.intro (by first | omega | (intros; omega) | (intros; exact And.intro (by assumption) (by omega)) | grind) ?_)
          refine DoL.sealS true 110 109 rfl ?_
          simp [go_sem]
          refine DoL.callO true 111 3000 rfl rfl rfl rfl (by first | exact trivial | omega | (simp; done) | (simp; omega)) (hA) rfl rfl rfl ?_
          simp [go_sem, d1, d2, htm]
          apply k2_; clear k2_
          refine Do.seqk fun _ k3_ => ?_
          refine Do.seqk fun _ k4_ => ?_
          refine Do.region [1,3,4,6,8,11,12,31] true ?_
          simp [go_sem, d1, d2, htm]
          apply k4_; clear k4_
          refine Do.cond [1,3,4,6,8,11,12] rfl (fun h => ?_) (fun h => ?_) <;> simp [go_sem, d1, d2, htm] at h ⊢
          refine Do.skip ?_
          simp [go_sem]
          apply k3_; clear k3_
          refine Do.seqk fun _ k5_ => ?_
          refine Do.sealS 3000 rfl ?_
          simp [go_sem]
          refine Do.region [1,3,4,6,8] true ?_
          simp [go_sem, d1, d2, htm]
          repeat (refine And.intro (by first | omega | (intros; omega) | (intros; exact And.intro (by assumption) (by omega)) | grind) ?_)
          apply k5_; clear k5_
          refine Do.seqk fun _ k6_ => ?_
          refine Do.region [1,3,4,6,8,13] true ?_
          simp [go_sem, d1, d2, htm]
          repeat (refine And.intro (by first | omega | (intros; omega) | (intros; exact And.intro (by assumption) (by omega)) | grind) ?_)
          apply k6_; clear k6_
          refine Do.seqk fun _ k7_ => ?_
          refine Do.block ?_
          refine Do.seqk fun _ k8_ => ?_
          refine Do.region [1,3,4,6,8,13,44] true ?_
          simp [go_sem, d1, d2, htm]
          repeat (refine And.intro (by first | omega | (intros; omega) | (intros; exact And.intro (by assumption) (by omega)) | grind) ?_)
          apply k8_; clear k8_
          refine Do.cond [1,3,4,6,8,13] rfl (fun h3 => ?_) (fun h3 => ?_) <;> simp [go_sem, d1, d2, htm] at h3 ⊢
          · omega
          · refine Do.seqk fun _ k9_ => ?_
            refine Do.region [1,3,4,6,8,13,49] true ?_
            simp [go_sem, d1, d2, htm]
            apply k9_; clear k9_
            refine Do.cond [1,3,4,6,8,13] rfl (fun h4 => ?_) (fun h4 => ?_) <;> simp [go_sem, d1, d2, htm] at h4 ⊢
            refine Do.seqk fun _ k10_ => ?_
            refine Do.region [8,9,10] true ?_
            simp [go_sem, d1, d2, htm]
            refine DoL.frz true 901 900 rfl ?_
            simp [go_sem]
            refine DoL.call true 902 rfl rfl rfl rfl (by first | exact trivial | omega | (simp; done) | (simp; omega)) (hMk) rfl (by first | exact .inl rfl | exact .inr rfl) rfl ?_
            simp [go_sem, d1, d2, htm]
            repeat (refine And.intro (by first | omega | (intros; omega) | (intros; exact And.intro (by assumption) (by omega)) | grind) ?_)
            apply k10_; clear k10_
            refine Do.ret ?_
            simp [endQ, rets, ret1, go_sem, d1, d2, htm]
            repeat (refine And.intro (by first | omega | (intros; omega) | (intros; exact And.intro (by assumption) (by omega)) | grind) ?_)
            subst hz
            exact TLe.refl _
        · rw [if_neg hN0, if_pos hk] at hz
          refine Does.of (nt := 79) Tryd.func14 rfl rfl rfl (by simp) ?_
          simp only [argTm, PV.ext, Ce.ext]
          refine Do.seqk fun _ k1_ => ?_
          refine Do.region [1,3,4,6,8] true ?_
          simp [go_sem, d1, d2, htm]
          apply k1_; clear k1_
          refine Do.seqk fun _ k2_ => ?_
          refine Do.region [1,3,4,6,8,11,12] true ?_
          simp [go_sem, d1, d2, htm]
          repeat (refine And.intro (by first | omega | (intros; omega) | (intros; exact And.intro (by assumption) (by omega)) | grind) ?_)
          refine DoL.sealS true 110 109 rfl ?_
          simp [go_sem]
          refine DoL.callO true 111 3000 rfl rfl rfl rfl (by first | exact trivial | omega | (simp; done) | (simp; omega)) (hA) rfl rfl rfl ?_
          simp [go_sem, d1, d2, htm]
          apply k2_; clear k2_
          refine Do.seqk fun _ k3_ => ?_
          refine Do.seqk fun _ k4_ => ?_
          refine Do.region [1,3,4,6,8,11,12,31] true ?_
          simp [go_sem, d1, d2, htm]
          apply k4_; clear k4_
          refine Do.cond [1,3,4,6,8,11,12] rfl (fun h => ?_) (fun h => ?_) <;> simp [go_sem, d1, d2, htm] at h ⊢
          refine Do.skip ?_
          simp [go_sem]
          apply k3_; clear k3_
          refine Do.seqk fun _ k5_ => ?_
          refine Do.sealS 3000 rfl ?_
          simp [go_sem]
          refine Do.region [1,3,4,6,8] true ?_
          simp [go_sem, d1, d2, htm]
          repeat (refine And.intro (by first | omega | (intros; omega) | (intros; exact And.intro (by assumption) (by omega)) | grind) ?_)
          apply k5_; clear k5_
          refine Do.seqk fun _ k6_ => ?_
          refine Do.region [1,3,4,6,8,13] true ?_
          simp [go_sem, d1, d2, htm]
          repeat (refine And.intro (by first | omega | (intros; omega) | (intros; exact And.intro (by assumption) (by omega)) | grind) ?_)
          apply k6_; clear k6_
          refine Do.seqk fun _ k7_ => ?_
          refine Do.block ?_
          refine Do.seqk fun _ k8_ => ?_
          refine Do.region [1,3,4,6,8,13,44] true ?_
          simp [go_sem, d1, d2, htm]
          repeat (refine And.intro (by first | omega | (intros; omega) | (intros; exact And.intro (by assumption) (by omega)) | grind) ?_)
          apply k8_; clear k8_
          refine Do.cond [1,3,4,6,8,13] rfl (fun h3 => ?_) (fun h3 => ?_) <;> simp [go_sem, d1, d2, htm] at h3 ⊢
          · omega
          · refine Do.seqk fun _ k9_ => ?_
            refine Do.region [1,3,4,6,8,13,49] true ?_
            simp [go_sem, d1, d2, htm]
            apply k9_; clear k9_
            refine Do.cond [1,3,4,6,8,13] rfl (fun h4 => ?_) (fun h4 => ?_) <;> simp [go_sem, d1, d2, htm] at h4 ⊢
            · omega
            · refine Do.seqk fun _ k10_ => ?_
              refine Do.region [1,3,4,6,8,13,54] true ?_
              simp [go_sem, d1, d2, htm]
              repeat (refine And.intro (by first | omega | (intros; omega) | (intros; exact And.intro (by assumption) (by omega)) | grind) ?_)
              apply k10_; clear k10_
              refine Do.cond [1,3,4,6,8,13] rfl (fun h5 => ?_) (fun h5 => ?_) <;> simp [go_sem, d1, d2, htm] at h5 ⊢
              · refine Do.seqk fun _ k11_ => ?_
                refine Do.region [8,9,10] true ?_
                simp [go_sem, d1, d2, htm]
                repeat (refine And.intro (by first | omega | (intros; omega) | (intros; exact And.intro (by assumption) (by omega)) | grind) ?_)
                apply k11_; clear k11_
                refine Do.ret ?_
                simp [endQ, rets, ret1, go_sem, d1, d2, htm]
                repeat (refine And.intro (by first | omega | (intros; omega) | (intros; exact And.intro (by assumption) (by omega)) | grind) ?_)
                subst hz
                exact ret_res (ret_z rfl) rfl
              · omega
  · rw [if_neg he] at hz
    have hA : Does Tryd.prog Gv 25 [Fm f p, .c (.i .i64 r), .c (.b (decide (n < 0) || decide (64 < n))), .s false [x.cs]] (.t [.c .z, .c (.i .i64 (argsE f p r (decide (n < 0) || decide (64 < n)) [x]))]) := Args_err hl ho he
    generalize argsE f p r (decide (n < 0) || decide (64 < n)) [x] = ae at *
    refine Does.of (nt := 79) Tryd.func14 rfl rfl rfl (by simp) ?_
    simp only [argTm, PV.ext, Ce.ext]
    refine Do.seqk fun _ k1_ => ?_
    refine Do.region [1,3,4,6,8] true ?_
    simp [go_sem]
    apply k1_; clear k1_
    refine Do.seqk fun _ k2_ => ?_
    refine Do.region [1,3,4,6,8,11,12] true ?_
    simp [go_sem]
    repeat (refine And.intro (by first | omega | (intros; omega) | (intros; exact And.intro (by assumption) (by omega)) | grind) ?_)
    refine DoL.sealS true 110 109 rfl ?_
    simp [go_sem]
    refine DoL.call true 111 rfl rfl rfl rfl (by first | exact trivial | omega | (simp; done) | (simp; omega)) (hA) rfl (by first | exact .inl rfl | exact .inr rfl) rfl ?_
    simp [go_sem]
    apply k2_; clear k2_
    refine Do.seqk fun _ k3_ => ?_
    refine Do.seqk fun _ k4_ => ?_
    refine Do.region [1,3,4,6,8,11,12,31] true ?_
    simp [go_sem]
    apply k4_; clear k4_
    refine Do.cond [1,3,4,6,8,11,12] rfl (fun h => ?_) (fun h => ?_) <;> simp [go_sem] at h ⊢
    · refine Do.seqk fun _ k5_ => ?_
      refine Do.region [8,9,10] true ?_
      simp [go_sem]
      repeat (refine And.intro (by first | omega | (intros; omega) | (intros; exact And.intro (by assumption) (by omega)) | grind) ?_)
      apply k5_; clear k5_
      refine Do.ret ?_
      simp [endQ, rets, ret1, go_sem]
      repeat (refine And.intro (by first | omega | (intros; omega) | (intros; exact And.intro (by assumption) (by omega)) | grind) ?_)
      subst hz
      exact ret_res (ret_z rfl) rfl
    · exact absurd h he
theorem one_flt (b : Bool) : PV.a [.i .i64 1, .b false, .i .i64 0, .w b [1]] = PV.a [.i .i64 1, .b false, .i .i64 0, .w b (nat 1)] := by rw [nat_one]
theorem argsE_far {f p r : Int} (x : Fla) : argsE f p r true [x] = (if argsE f p r false [x] ≠ 2 then 1 else 2) := by
  by_cases h : anyLarge [x] = true
  · rw [argsE, argsE, if_pos h, if_pos h]; rfl
  · rw [argsE, argsE, if_neg h, if_neg h, if_pos (by simp), if_pos]
    split
    · omega
    · split
      · omega
      · split <;> omega
theorem powA_fine {f p r n : Int} {x : Fla} : rcanon (powA f p r x n).1 = (powA f p r x n).1 ∧ Fine (powA f p r x n).1 := by
  unfold powA
  split
  · rename_i he
    obtain ⟨h1, h2, h3, h4, h5, h6⟩ := argsE_zero he
    have hh : (holdsP f p x.flt).2 = true := by simpa using List.all_eq_true.1 h6 x (by simp)
    exact powR_fine h5 (held_cf hh).k
  · exact ⟨rfl, fine_zero⟩
end Go.Proofs.YthpkhmbjmnhmoaaDoor
