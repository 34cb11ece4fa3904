/- Sums of products, by the program. No condition. Sums of products, by the reference. No condition. The program awake: products. No condition. The law ProductMuls. No condition. The law ProductFused. No condition. The law ProductDots. No condition. A shift of a signed number to the right. No condition. -/
import Derived.Test.YthpkhmbjmnhmoaaGreatDoorMl
import Derived.Test.YthpkhmbjmnhmoaaGreatDoorMh
import Derived.Test.YthpkhmbjmnhmoaaGreatDoorMk
/- Sums of products, by the program. No condition. -/
namespace Go.Proofs.YthpkhmbjmnhmoaaGreatDoor
set_option linter.unusedVariables false
set_option linter.unusedSimpArgs false
set_option maxHeartbeats 4000000
set_option maxRecDepth 10000
theorem dot_bound {ts : List (Bool × Int × Nu)} (h : ∀ t ∈ ts, -200000 ≤ t.2.2.e ∧ t.2.2.e + bl t.2.2.v ≤ 300000) : ∀ i, -4194304 ≤ (dotG (ts.take i)).sum.e ∧ (dotG (ts.take i)).sum.e + bl (dotG (ts.take i)).sum.v ≤ 300000 + min i ts.length := by
  intro i
  induction i with
  | zero => simp [dotG, Ga.zero, bl_zero]
  | succ i ih =>
    cases hx : ts[i]? with
    | none =>
      have hl : ts.length ≤ i := List.getElem?_eq_none_iff.1 hx
      rw [List.take_of_length_le (by omega)] at ih ⊢
      omega
    | some t =>
      have hi : i < ts.length := (List.getElem?_eq_some_iff.1 hx).1
      rw [dotG_take hx]
      generalize dotG (ts.take i) = g at *
      have hk := h t (List.mem_of_getElem? hx)
      unfold dotStep Ga.put
      split
      · simp only []; omega
      · split
        · simp only []; omega
        · split
          · have := Nu.plus_ok (a := g.sum) (b := t.2.2) (c := 300000 + min i ts.length) ih (by omega)
            simp only []; omega
          · simp only []; omega
/-- The error of a list of products. -/
def dotE (f p r : Int) (xs ys : List Fla) (z : Fla) : Int := argsE f p r ((xs.length : Int) != ys.length || decide ((1000 : Int) < xs.length)) (xs ++ ys ++ [z])
/-- What Dot answers. -/
def dotA (f p r : Int) (xs ys : List Fla) (z : Fla) : Flt × Int × Int :=
  if dotE f p r xs ys z = 0 then ((dotP f p r (tsOf ((heldL f p xs).zip (heldL f p ys))) (holdsP f p z.flt).1).1, (dotP f p r (tsOf ((heldL f p xs).zip (heldL f p ys))) (holdsP f p z.flt).1).2, 0) else (⟨0, false, 0, 0⟩, 0, dotE f p r xs ys z)
theorem PDot_does {f p r : Int} {xs ys : List Fla} {z : Fla} (hxl : xs.length < 1000000) (hyl : ys.length < 1000000) (hx : ∀ x ∈ xs, x.Ok) (hy : ∀ x ∈ ys, x.Ok) (hz : z.Ok) : Does Tryz.prog Gv 20 [Fm f p, .c (.i .i64 r), Rows xs, Rows ys, Fl z.k z.n z.e z.m] (Res (dotA f p r xs ys z)) := by
  generalize hw : dotA f p r xs ys z = w
  unfold dotA at hw
  have hl : (xs ++ ys ++ [z]).length < 1099511627776 := by simp; omega
  have ho : ∀ u ∈ xs ++ ys ++ [z], u.Ok := by
    intro u hu
    simp only [List.mem_append, List.mem_singleton] at hu
    rcases hu with (hu | hu) | rfl
    · exact hx u hu
    · exact hy u hu
    · exact hz
  by_cases he : dotE f p r xs ys z = 0
  · rw [if_pos he] at hw
    have hA := Args_own hl ho he
    obtain ⟨h1, h2, h3, h4, h5, h6⟩ := argsE_zero he
    rw [show heldL f p (xs ++ ys ++ [z]) = heldL f p xs ++ heldL f p ys ++ [(holdsP f p z.flt).1] by simp [heldL]] at hA
    rw [show Rows (xs ++ ys ++ [z]) = .s false (xs.map Fla.cs ++ (ys.map Fla.cs ++ [z.cs])) by simp [Rows]] at hA
    have hlen : xs.length = ys.length ∧ xs.length ≤ 1000 := by simp at h4; omega
    rw [h4] at hA
    have d1 : ¬ (1000 : Int) < ys.length := by omega
    have hux : (heldL f p xs).length = xs.length := by simp [heldL]
    have huy : (heldL f p ys).length = ys.length := by simp [heldL]
    have hall : ∀ x ∈ xs ++ ys ++ [z], (holdsP f p x.flt).2 = true := fun x hx => by simpa using List.all_eq_true.1 h6 x hx
    have sx : ∀ u ∈ heldL f p xs, -100000 ≤ u.e ∧ u.e ≤ 100000 ∧ bl u.v ≤ 256 := fun u hu => by
      obtain ⟨x, hx, rfl⟩ := List.mem_map.1 hu
      have := held_small h5 (hall x (by simp [hx]))
      exact ⟨this.1, this.2.1, this.2.2.1⟩
    have sy : ∀ u ∈ heldL f p ys, -100000 ≤ u.e ∧ u.e ≤ 100000 ∧ bl u.v ≤ 256 := fun u hu => by
      obtain ⟨x, hx, rfl⟩ := List.mem_map.1 hu
      have := held_small h5 (hall x (by simp [hx]))
      exact ⟨this.1, this.2.1, this.2.2.1⟩
    have sz := held_small h5 (hall z (by simp))
    generalize (holdsP f p z.flt).1 = c at *
    generalize heldL f p xs = as_ at *
    generalize heldL f p ys = bs at *
    have hts : ∀ t ∈ tsOf (as_.zip bs), -200000 ≤ t.2.2.e ∧ t.2.2.e + bl t.2.2.v ≤ 300000 := fun t ht => by
      obtain ⟨q, hq, rfl⟩ := List.mem_map.1 ht
      obtain ⟨q1, q2⟩ := q
      exact (timesP_ok (sx _ (List.of_mem_zip hq).1) (sy _ (List.of_mem_zip hq).2)).2
    have hbd := dot_bound hts
    have hget : ∀ (i : Nat) (a b : Flt), as_[i]? = some a → bs[i]? = some b → (tsOf (as_.zip bs))[i]? = some (timesP a b) := fun i a b h1 h2 => by
      have : (as_.zip bs)[i]? = some (a, b) := List.getElem?_zip_eq_some.2 ⟨h1, h2⟩
      rw [tsOf, List.getElem?_map, this]; rfl
    have htl : (tsOf (as_.zip bs)).length = ys.length := by simp [tsOf]; omega
    have hwz : dotP f p r (tsOf (as_.zip bs)) c = ((dotG (tsOf (as_.zip bs))).put c.k ⟨c.n, c.v, c.e⟩).float f p r := rfl
    rw [hwz] at hw
    generalize tsOf (as_.zip bs) = ts at *
    have hn : xs.length = ys.length := hlen.1
    have hrow1 : ∀ (i : Nat) (a : Flt), as_[i]? = some a → (as_.map Flt.cs ++ bs.map Flt.cs ++ [c.cs])[i]? = some a.cs := fun i a h => by
      have hi := (List.getElem?_eq_some_iff.1 h).1
      rw [List.append_assoc, List.getElem?_append_left (by simpa using hi)]; simp [h]
    have hrow2 : ∀ (i : Nat) (a : Flt), bs[i]? = some a → (as_.map Flt.cs ++ bs.map Flt.cs ++ [c.cs])[ys.length + i]? = some a.cs := fun i a h => by
      have hi := (List.getElem?_eq_some_iff.1 h).1
      rw [List.append_assoc, List.getElem?_append_right (by simp; omega), List.getElem?_append_left (by simp; omega)]
      simp only [List.length_map]
      rw [show ys.length + i - as_.length = i by omega]; simp [h]
    have hrow3 : (as_.map Flt.cs ++ bs.map Flt.cs ++ [c.cs])[ys.length + ys.length]? = some c.cs := by
      rw [List.getElem?_append_right (by simp; omega)]
      simp only [List.length_append, List.length_map]
      rw [show ys.length + ys.length - (as_.length + bs.length) = 0 by omega]; rfl
    have hrl : (as_.map Flt.cs ++ bs.map Flt.cs ++ [c.cs]).length = ys.length + ys.length + 1 := by simp; omega
    rw [show (as_ ++ bs ++ [c]).map Flt.cs = as_.map Flt.cs ++ bs.map Flt.cs ++ [c.cs] by simp] at hA
    generalize as_.map Flt.cs ++ bs.map Flt.cs ++ [c.cs] = rows at *
    refine Does.of (nt := 108) Tryz.func20 rfl rfl rfl (by simp) ?_
    simp only [argTm, PV.ext, Ce.ext]
    refine Do.seqk fun _ k1_ => ?_
    refine Do.region [1,2,3,5,9,10] true ?_
    simp [go_sem, hn, d1]
    apply k1_; clear k1_
    refine Do.seqk fun _ k2_ => ?_
    refine Do.draw [1,2,3,5,9,10,13] true (by kernel_rfl) ?_
    simp [go_sem, hn, d1]
    repeat (refine And.intro (by first | omega | (intros; omega) | (intros; exact And.intro (by assumption) (by omega)) | kernel_rfl | grind) ?_)
    try (refine And.intro (by kernel_rfl) ?_)
    apply k2_; clear k2_
    refine Do.seqk fun _ k3_ => ?_
    refine Do.region [1,2,5,9,10,14,15] true ?_
    simp [go_sem, hn, d1]
    repeat (refine And.intro (by first | omega | (intros; omega) | (intros; exact And.intro (by assumption) (by omega)) | grind) ?_)
    refine DoL.sealS true 213 100 rfl ?_
    simp [go_sem, hn, d1]
    refine DoL.callO true 214 3000 rfl rfl rfl rfl (by first | exact trivial | omega | (simp; done) | (simp; omega)) (hA) rfl rfl rfl ?_
    simp [go_sem, hn, d1]
    apply k3_; clear k3_
    refine Do.seqk fun _ k4_ => ?_
    refine Do.seqk fun _ k5_ => ?_
    refine Do.region [1,2,5,9,10,14,15,47] true ?_
    simp [go_sem, hn, d1]
    apply k5_; clear k5_
    refine Do.cond [1,2,5,9,10,14,15] rfl (fun h => ?_) (fun h => ?_) <;> simp [go_sem, hn, d1] at h ⊢
    refine Do.skip ?_
    simp [go_sem]
    apply k4_; clear k4_
    refine Do.seqk fun _ k6_ => ?_
    refine Do.region [1,2,5,9,10,14,16] true ?_
    simp [go_sem, hn, d1]
    apply k6_; clear k6_
    refine Do.seqk fun _ k7_ => ?_
    refine Do.seqk fun _ k8_ => ?_
    refine Do.sealS 3000 rfl ?_
    simp [go_sem]
    refine Do.weakB 501 Ga.zero.cs rfl (.cons (PLe.refl _) (.cons (ret_z rfl) (.cons (PLe.refl _) (.cons (PLe.refl _) (.cons (PLe.refl _) (.cons (PLe.refl _) (.cons (PLe.refl _) (.cons (PLe.refl _) (.cons (PLe.refl _) (.cons (PLe.refl _) .nil)))))))))) ?_
    simp [go_sem, put]
    refine Do.region [1,2,5,9,10,14,16,53,54] true ?_
    simp [go_sem, hn, d1]
    repeat (refine And.intro (by first | omega | (intros; omega) | (intros; exact And.intro (by assumption) (by omega)) | grind) ?_)
    apply k8_; clear k8_
    refine Do.block ?_
    refine Do.loopF [1,2,5,9,10,14,16,53,54] (fun (i : Nat) => [(54, .int .i64 i)]) (fun (i : Nat) => [(501, .box (dotG (ts.take i)).cs)]) (fun (i : Nat) => i ≤ ys.length) (fun (i : Nat) => ys.length - i) (0) (fun _ => by first | (simp [go_sem, mixS]; done) | (simp [go_sem, mixS]; rfl)) (St.le_of (by first | rfl | simp [keep]) (by first | rfl | simp [keep])) (Nat.zero_le _) ?_
    intro i hi
    refine Do.seqk fun _ k9_ => ?_
    refine Do.region [1,2,5,9,10,14,16,53,54,55] true ?_
    simp [go_sem, hn, d1]
    apply k9_; clear k9_
    refine Do.seqk fun _ k10_ => ?_
    refine Do.cond [1,2,5,9,10,14,16,53,54] rfl (fun h2 => ?_) (fun h2 => ?_) <;> simp [go_sem, hn, d1] at h2 ⊢
    · obtain ⟨a, ha⟩ : ∃ a, as_[i]? = some a := ⟨_, List.getElem?_eq_getElem (by omega)⟩
      obtain ⟨b, hb⟩ : ∃ b, bs[i]? = some b := ⟨_, List.getElem?_eq_getElem (by omega)⟩
      have r1 := hrow1 i a ha
      have r2 := hrow2 i b hb
      have rt := hget i a b ha hb
      have ka := sx a (List.mem_of_getElem? ha)
      have kb := sy b (List.mem_of_getElem? hb)
      have hT := @times_does Gv a b (by have := nat_len_bl a.v; omega) (by have := nat_len_bl b.v; omega) (by omega) (by omega)
      have ht2 := hts _ (List.mem_of_getElem? rt)
      have hst := dotG_take rt
      have hgb := hbd i
      generalize timesP a b = t at *
      generalize dotG (ts.take i) = g at *
      have hP := @Put_does ({ g with inv := g.inv || t.1 } : Ga) t.2.1 t.2.2 (fun _ => ⟨⟨hgb.1, by simp only []; omega⟩, ⟨by omega, by omega⟩⟩)
      rw [show ({ g with inv := g.inv || t.1 } : Ga).put t.2.1 t.2.2 = dotStep g t from rfl, ← hst] at hP
      refine Do.skip ?_
      simp [go_sem]
      apply k10_; clear k10_
      refine Do.seqk fun _ k11_ => ?_
      refine Do.block ?_
      refine Do.seqk fun _ k12_ => ?_
      refine Do.region [1,2,5,9,10,14,16,17,53,54] true ?_
      simp [go_sem, hn, r1, r2, hrl, show ((ys.length : Int) + i).toNat = ys.length + i by omega]
      apply k12_; clear k12_
      refine Do.seqk fun _ k13_ => ?_
      refine Do.draw [1,2,5,9,10,14,16,18,53,54] true (by kernel_rfl) ?_
      simp [go_sem, hn, r1, r2, hrl, show ((ys.length : Int) + i).toNat = ys.length + i by omega]
      repeat (refine And.intro (by first | omega | (intros; omega) | (intros; exact And.intro (by assumption) (by omega)) | kernel_rfl | grind) ?_)
      refine DoLD.call true 912 rfl rfl rfl rfl (by first | exact trivial | omega | (simp; done) | (simp; omega)) (hT) rfl (by first | exact .inl rfl | exact .inr rfl) rfl ?_
      simp [go_sem, hn, r1, r2, hrl, show ((ys.length : Int) + i).toNat = ys.length + i by omega]
      repeat (refine And.intro (by first | omega | (intros; omega) | (intros; exact And.intro (by assumption) (by omega)) | kernel_rfl | grind) ?_)
      try (refine And.intro (by kernel_rfl) ?_)
      apply k13_; clear k13_
      refine Do.seqk fun _ k14_ => ?_
      refine Do.region [1,2,5,9,10,14,16,18,53,54] true ?_
      simp [go_sem, hn, r1, r2, hrl, show ((ys.length : Int) + i).toNat = ys.length + i by omega]
      repeat (refine And.intro (by first | omega | (intros; omega) | (intros; exact And.intro (by assumption) (by omega)) | grind) ?_)
      apply k14_; clear k14_
      refine Do.region [1,2,5,9,10,14,16,53,54] true ?_
      simp [go_sem, hn, r1, r2, hrl, show ((ys.length : Int) + i).toNat = ys.length + i by omega]
      repeat (refine And.intro (by first | omega | (intros; omega) | (intros; exact And.intro (by assumption) (by omega)) | grind) ?_)
      refine DoL.callP2 true 1106 rfl rfl rfl rfl rfl rfl (by first | exact trivial | omega | (simp; done) | (simp; omega)) (hP) rfl rfl rfl ?_
      simp [go_sem, hn, r1, r2, hrl, show ((ys.length : Int) + i).toNat = ys.length + i by omega]
      apply k11_; clear k11_
      refine Do.region [1,2,5,9,10,14,16,53,54] true ?_
      simp [go_sem, hn, r1, r2, hrl, show ((ys.length : Int) + i).toNat = ys.length + i by omega]
      repeat (refine And.intro (by first | omega | (intros; omega) | (intros; exact And.intro (by assumption) (by omega)) | grind) ?_)
      refine ⟨i + 1, St.le_of (by first | rfl | simp [keep]) (by first | rfl | simp [keep]), by omega, by simp; omega⟩
    · obtain rfl : i = ys.length := by omega
      rw [List.take_of_length_le (by omega)]
      have hgb := hbd ts.length
      rw [List.take_length] at hgb
      generalize dotG ts = g at *
      have hP := @Put_does g c.k ⟨c.n, c.v, c.e⟩ (fun _ => ⟨⟨hgb.1, by omega⟩, ⟨by simp only []; omega, by simp only []; omega⟩⟩)
      have hgs : (g.put c.k ⟨c.n, c.v, c.e⟩).sum.Ok := by
        have h7 := @Nu.plus_ok g.sum ⟨c.n, c.v, c.e⟩ 400000 ⟨hgb.1, by omega⟩ ⟨by simp only []; omega, by simp only []; omega⟩
        unfold Ga.put
        split
        · exact ⟨hgb.1, by simp only []; omega⟩
        · split
          · exact ⟨hgb.1, by simp only []; omega⟩
          · split
            · exact ⟨h7.1, by simp only []; omega⟩
            · exact ⟨hgb.1, by simp only []; omega⟩
      have hF := @GFloat_does f p r h5 (by assumption) h3 _ hgs
      generalize g.put c.k ⟨c.n, c.v, c.e⟩ = g2 at *
      have hrow3b : ∀ h, rows[ys.length + ys.length]'h = c.cs := fun h => by
        rw [List.getElem?_eq_getElem h] at hrow3; exact Option.some.inj hrow3
      refine Do.exit ?_
      simp [go_sem]
      apply k7_; clear k7_
      refine Do.seqk fun _ k15_ => ?_
      refine Do.region [1,5,9,10,16] true ?_
      simp [go_sem, hn, hrow3, hrow3b, hrl, show ((ys.length : Int) + ys.length).toNat = ys.length + ys.length by omega]
      repeat (refine And.intro (by first | omega | (intros; omega) | (intros; exact And.intro (by assumption) (by omega)) | grind) ?_)
      apply k15_; clear k15_
      refine Do.seqk fun _ k16_ => ?_
      refine Do.draw [1,5,10,16] true (by kernel_rfl) ?_
      simp [go_sem, hn, hrow3, hrow3b, hrl, show ((ys.length : Int) + ys.length).toNat = ys.length + ys.length by omega]
      repeat (refine And.intro (by first | omega | (intros; omega) | (intros; exact And.intro (by assumption) (by omega)) | kernel_rfl | grind) ?_)
      refine DoLD.call true 1405 rfl rfl rfl rfl (by first | exact trivial | omega | (simp; done) | (simp; omega)) (Of_does) rfl (by first | exact .inl rfl | exact .inr rfl) rfl ?_
      simp [go_sem, hn, hrow3, hrow3b, hrl, show ((ys.length : Int) + ys.length).toNat = ys.length + ys.length by omega]
      refine DoLD.callP2 true 1406 rfl rfl rfl rfl rfl rfl (by first | exact trivial | omega | (simp; done) | (simp; omega)) (hP) rfl rfl rfl ?_
      simp [go_sem, hn, hrow3, hrow3b, hrl, show ((ys.length : Int) + ys.length).toNat = ys.length + ys.length by omega]
      try (refine And.intro (by kernel_rfl) ?_)
      apply k16_; clear k16_
      refine Do.seqk fun _ k17_ => ?_
      refine Do.region [10,19,20] true ?_
      simp [go_sem, hn, hrow3, hrow3b, hrl, show ((ys.length : Int) + ys.length).toNat = ys.length + ys.length by omega]
      repeat (refine And.intro (by first | omega | (intros; omega) | (intros; exact And.intro (by assumption) (by omega)) | grind) ?_)
      refine DoL.lend true 1503 100 501 rfl rfl rfl (by decide) ?_
      simp [go_sem, put, del]
      refine DoL.call true 1504 rfl rfl rfl rfl (by first | exact trivial | omega | (simp; done) | (simp; omega)) (hF) rfl (by first | exact .inl rfl | exact .inr rfl) rfl ?_
      simp [go_sem, hn, hrow3, hrow3b, hrl, show ((ys.length : Int) + ys.length).toNat = ys.length + ys.length by omega]
      repeat (refine And.intro (by first | omega | (intros; omega) | (intros; exact And.intro (by assumption) (by omega)) | grind) ?_)
      apply k17_; clear k17_
      refine Do.seqk fun _ k18_ => ?_
      refine Do.region [10,11,12] true ?_
      simp [go_sem, hn, hrow3, hrow3b, hrl, show ((ys.length : Int) + ys.length).toNat = ys.length + ys.length by omega]
      repeat (refine And.intro (by first | omega | (intros; omega) | (intros; exact And.intro (by assumption) (by omega)) | grind) ?_)
      apply k18_; clear k18_
      refine Do.ret ?_
      simp [endQ, rets, ret1, go_sem, hn, hrow3, hrow3b, hrl, show ((ys.length : Int) + ys.length).toNat = ys.length + ys.length by omega]
      repeat (refine And.intro (by first | omega | (intros; omega) | (intros; exact And.intro (by assumption) (by omega)) | grind) ?_)
      subst hw
      exact TLe.refl _
  · rw [if_neg he] at hw
    have hA := Args_err hl ho he
    rw [show Rows (xs ++ ys ++ [z]) = .s false (xs.map Fla.cs ++ (ys.map Fla.cs ++ [z.cs])) by simp [Rows]] at hA
    unfold dotE at hw he
    generalize argsE f p r ((xs.length : Int) != ys.length || decide ((1000 : Int) < xs.length)) (xs ++ ys ++ [z]) = ae at *
    refine Does.of (nt := 108) Tryz.func20 rfl rfl rfl (by simp) ?_
    simp only [argTm, PV.ext, Ce.ext]
    refine Do.seqk fun _ k1_ => ?_
    refine Do.region [1,2,3,5,9,10] true ?_
    simp [go_sem]
    apply k1_; clear k1_
    refine Do.seqk fun _ k2_ => ?_
    refine Do.draw [1,2,3,5,9,10,13] true (by kernel_rfl) ?_
    simp [go_sem]
    repeat (refine And.intro (by first | omega | (intros; omega) | (intros; exact And.intro (by assumption) (by omega)) | kernel_rfl | grind) ?_)
    try (refine And.intro (by kernel_rfl) ?_)
    apply k2_; clear k2_
    refine Do.seqk fun _ k3_ => ?_
    refine Do.region [1,2,5,9,10,14,15] true ?_
    simp [go_sem]
    repeat (refine And.intro (by first | omega | (intros; omega) | (intros; exact And.intro (by assumption) (by omega)) | grind) ?_)
    refine DoL.sealS true 213 100 rfl ?_
    simp [go_sem]
    refine DoL.call true 214 rfl rfl rfl rfl (by first | exact trivial | omega | (simp; done) | (simp; omega)) (hA) rfl (by first | exact .inl rfl | exact .inr rfl) rfl ?_
    simp [go_sem]
    apply k3_; clear k3_
    refine Do.seqk fun _ k4_ => ?_
    refine Do.seqk fun _ k5_ => ?_
    refine Do.region [1,2,5,9,10,14,15,47] true ?_
    simp [go_sem]
    apply k5_; clear k5_
    refine Do.cond [1,2,5,9,10,14,15] rfl (fun h => ?_) (fun h => ?_) <;> simp [go_sem] at h ⊢
    · refine Do.seqk fun _ k6_ => ?_
      refine Do.region [10,11,12] true ?_
      simp [go_sem]
      repeat (refine And.intro (by first | omega | (intros; omega) | (intros; exact And.intro (by assumption) (by omega)) | grind) ?_)
      apply k6_; clear k6_
      refine Do.ret ?_
      simp [endQ, rets, ret1, go_sem]
      repeat (refine And.intro (by first | omega | (intros; omega) | (intros; exact And.intro (by assumption) (by omega)) | grind) ?_)
      subst hw
      exact ret_res (ret_z rfl) rfl
    · exact absurd h he
end Go.Proofs.YthpkhmbjmnhmoaaGreatDoor
/- Sums of products, by the reference. No condition. -/
namespace Go.Proofs.YthpkhmbjmnhmoaaGreatDoor
set_option linter.unusedVariables false
set_option linter.unusedSimpArgs false
set_option maxHeartbeats 4000000
set_option maxRecDepth 10000
/-- A float of the reference that is small. -/
structure Rs (x : Fla) : Prop where
  rt : Rt x
  lo : -100000 ≤ (rcanon x.flt).e
  hi : (rcanon x.flt).e ≤ 100000
  bl : bl (rcanon x.flt).v ≤ 256
theorem held_rs {f p : Int} (hf : fmOk f p = true) {x : Fla} (h : (holdsP f p x.flt).2 = true) (hr : Rt x) : Rs x := by
  have h1 := held_small hf h
  rw [← (held_rcanon h).1] at h1
  exact ⟨hr, h1.1, h1.2.1, h1.2.2.1⟩
theorem prodF_k4 (x y : Flt) : K4 (prodF x y).1 := by
  unfold K4 prodF
  split
  · simp
  · split
    · simp
    · split
      · simp
      · split <;> simp
theorem prodF_rt {x y : Fla} (hx : Rs x) (hy : Rs y) : Rt (prodF x.flt y.flt).1.fla := by
  have hp := prodF_pr hx.rt hy.rt
  have hm := bl_mul_le (rcanon x.flt).v (rcanon y.flt).v
  have a1 := hx.bl
  have a2 := hx.lo
  have a3 := hx.hi
  have b1 := hy.bl
  have b2 := hy.lo
  have b3 := hy.hi
  have key : bl (prodF x.flt y.flt).1.v ≤ 512 ∧ (canon (prodF x.flt y.flt).1).2 = true := by
    have hpos := hp.pos
    unfold prodF at hpos ⊢
    split
    · exact ⟨by simp [bl_zero], rfl⟩
    · split
      · exact ⟨by simp [bl_zero], rfl⟩
      · split
        · exact ⟨by simp [bl_zero], rfl⟩
        · split
          · exact ⟨by simp [bl_zero], rfl⟩
          · rename_i h1 h2 h3 h4
            rw [if_neg h1, if_neg h2, if_neg h3, if_neg h4] at hpos
            have hv := hpos rfl
            simp only [] at hv ⊢
            refine ⟨by omega, ?_⟩
            have htz := tz_lt_bl (show 0 < (rcanon x.flt).v * (rcanon y.flt).v by omega)
            unfold canon
            simp only []
            rw [if_neg (by omega), if_neg (by omega), if_pos trivial, if_neg (by omega)]
            simp only [decide_eq_true_eq]
            omega
  refine ⟨by rw [Flt.fla_flt]; exact key.2, nat_ws _, ?_⟩
  have := len_bl key.1
  show (nat (prodF x.flt y.flt).1.v).length ≤ 4096
  omega
def anyNan (ps : List (Flt × Bool)) : Bool := ps.any fun q => q.1.k == 3
def anyBad (ps : List (Flt × Bool)) : Bool := ps.any fun q => !q.2
theorem anyNan_snoc (ps : List (Flt × Bool)) (q : Flt × Bool) : anyNan (ps ++ [q]) = (anyNan ps || q.1.k == 3) := by simp [anyNan]
theorem anyBad_snoc (ps : List (Flt × Bool)) (q : Flt × Bool) : anyBad (ps ++ [q]) = (anyBad ps || !q.2) := by simp [anyBad]
theorem RDot_does {G : Gl} {f p r : Int} (hf : fmOk f p = true) (hr : 0 ≤ r) (hr' : r ≤ 4) {xs ys : List Fla} {z : Fla} (hl : xs.length = ys.length) (hl2 : ys.length < 1000000) (hx : ∀ x ∈ xs, Rs x) (hy : ∀ x ∈ ys, Rs x) (hz : Rt z) :
    Does Tryz.prog G 19 [Fm f p, .c (.i .i64 r), Rows xs, Rows ys, Fl z.k z.n z.e z.m] (.t [(dotR f p r ((xs.map fun x => rcanon x.flt).zip (ys.map fun x => rcanon x.flt)) (rcanon z.flt)).1.pw, .c (.i .i64 (dotR f p r ((xs.map fun x => rcanon x.flt).zip (ys.map fun x => rcanon x.flt)) (rcanon z.flt)).2)]) := by
  generalize hw : dotR f p r ((xs.map fun x => rcanon x.flt).zip (ys.map fun x => rcanon x.flt)) (rcanon z.flt) = w
  unfold dotR at hw
  obtain ⟨ps, hps⟩ : ∃ ps, psOf ((xs.map fun x => rcanon x.flt).zip (ys.map fun x => rcanon x.flt)) = ps := ⟨_, rfl⟩
  have hget : ∀ (i : Nat) (a b : Fla), xs[i]? = some a → ys[i]? = some b → ps[i]? = some (prodF a.flt b.flt) := fun i a b h1 h2 => by
    have h3 : ((xs.map fun x => rcanon x.flt).zip (ys.map fun x => rcanon x.flt))[i]? = some (rcanon a.flt, rcanon b.flt) := List.getElem?_zip_eq_some.2 ⟨by simp [h1], by simp [h2]⟩
    rw [← hps, psOf, List.getElem?_map, h3]
    simp only [Option.map_some, prodF_rc]
  have hpl : ps.length = ys.length := by rw [← hps]; simp [psOf]; omega
  have hprt : ∀ q ∈ ps, Rt q.1.fla := fun q hq => by
    obtain ⟨i, hi, e⟩ := List.getElem_of_mem hq
    have ha : xs[i]? = some xs[i] := List.getElem?_eq_getElem (by omega)
    have hb : ys[i]? = some ys[i] := List.getElem?_eq_getElem (by omega)
    have h3 := hget i _ _ ha hb
    rw [List.getElem?_eq_getElem hi, e] at h3
    rw [Option.some.inj h3]
    exact prodF_rt (hx _ (List.mem_of_getElem? ha)) (hy _ (List.mem_of_getElem? hb))
  have hT := @RTotal_right G f p r hf hr hr' (z :: ps.map fun q => q.1.fla) (by simp; omega) (by
    intro u hu
    rcases List.mem_cons.1 hu with rfl | hu
    · exact hz
    · obtain ⟨q, hq, rfl⟩ := List.mem_map.1 hu
      exact hprt q hq)
  rw [show ((z :: ps.map fun q => q.1.fla).map fun x => rcanon x.flt) = rcanon (rcanon z.flt) :: ps.map fun q => rcanon q.1 by simp [Flt.fla_flt, rcanon_idem, Function.comp_def]] at hT
  rw [show Rows (z :: ps.map fun q => q.1.fla) = .s false (z.cs :: ps.map fun q => q.1.cs) by simp [Rows, Function.comp_def]] at hT
  rw [hps, rcanon_k, show z.flt.k = z.k from rfl] at hw
  have hP := fun (a b : Fla) (h1 : Rt a) (h2 : Rt b) => @Product_does G a b h1 h2
  clear hps
  generalize (gatherP (rcanon (rcanon z.flt) :: ps.map fun q => rcanon q.1)).float f p r = tot at *
  have hw2 : (if z.k = 3 ∨ anyNan ps = true then (⟨3, false, 0, 0⟩, 0) else if anyBad ps = true then (⟨3, false, 0, 0⟩, 16) else tot) = w := hw
  clear hw
  refine Does.of (nt := 68) Tryz.func19 rfl rfl rfl (by simp) ?_
  simp only [argTm, PV.ext, Ce.ext]
  refine Do.seqk fun _ k1_ => ?_
  refine Do.region [1,2,3,5,9,10] true ?_
  simp [go_sem]
  apply k1_; clear k1_
  refine Do.seqk fun _ k2_ => ?_
  refine Do.region [1,2,3,5,9,10,12] true ?_
  simp [go_sem]
  repeat (refine And.intro (by first | omega | (intros; omega) | (intros; exact And.intro (by assumption) (by omega)) | grind) ?_)
  apply k2_; clear k2_
  refine Do.seqk fun _ k3_ => ?_
  refine Do.region [1,2,3,5,10,12,13,14] true ?_
  simp [go_sem]
  repeat (refine And.intro (by first | omega | (intros; omega) | (intros; exact And.intro (by assumption) (by omega)) | grind) ?_)
  apply k3_; clear k3_
  refine Do.seqk fun _ k4_ => ?_
  refine Do.seqk fun _ k5_ => ?_
  refine Do.region [1,2,3,5,10,12,13,14,15] true ?_
  simp [go_sem]
  apply k5_; clear k5_
  refine Do.block ?_
  refine Do.loopF [1,2,3,5,10,12,13,14,15] (fun (i : Nat) => [(12, .v (.c (.r 101 (i + 1)))), (13, .v (.c (.b (z.k == 3 || anyNan (ps.take i))))), (14, .v (.c (.b (anyBad (ps.take i))))), (15, .int .i64 i)]) (fun (i : Nat) => [(101, .sr 4 (z.cs :: (ps.map fun q => q.1.cs).take i))]) (fun (i : Nat) => i ≤ ys.length) (fun (i : Nat) => ys.length - i) (0) (fun _ => by first | (simp [go_sem, mixS]; done) | (simp [go_sem, mixS]; rfl)) (St.le_of (by simp [keep, anyNan, anyBad]) (by simp [keep])) (Nat.zero_le _) ?_
  intro i hi
  refine Do.seqk fun _ k6_ => ?_
  refine Do.seqk fun _ k7_ => ?_
  refine Do.region [1,2,3,5,10,12,13,14,15,26] true ?_
  simp [go_sem]
  repeat (refine And.intro (by first | omega | (intros; omega) | (intros; exact And.intro (by assumption) (by omega)) | grind) ?_)
  apply k7_; clear k7_
  refine Do.cond [1,2,3,5,10,12,13,14,15] rfl (fun h2 => ?_) (fun h2 => ?_) <;> simp [go_sem] at h2 ⊢
  · obtain ⟨a, ha⟩ : ∃ a, xs[i]? = some a := ⟨_, List.getElem?_eq_getElem (by omega)⟩
    obtain ⟨b, hb⟩ : ∃ b, ys[i]? = some b := ⟨_, List.getElem?_eq_getElem (by omega)⟩
    have hg := hget i a b ha hb
    have hD := hP a b (hx a (List.mem_of_getElem? ha)).rt (hy b (List.mem_of_getElem? hb)).rt
    generalize prodF a.flt b.flt = q at *
    have e1 : ps.take (i + 1) = ps.take i ++ [q] := by rw [List.take_add_one, hg]; rfl
    have hmin : min i ps.length = i := by omega
    refine Do.skip ?_
    simp [go_sem]
    apply k6_; clear k6_
    refine Do.seqk fun _ k8_ => ?_
    refine Do.block ?_
    refine Do.seqk fun _ k9_ => ?_
    refine Do.draw [1,2,3,5,10,12,13,14,15,16,17] true (by kernel_rfl) ?_
    simp [go_sem, ha, hb, hmin]
    repeat (refine And.intro (by first | omega | (intros; omega) | (intros; exact And.intro (by assumption) (by omega)) | kernel_rfl | grind) ?_)
    refine DoLD.call true 609 rfl rfl rfl rfl (by first | exact trivial | omega | (simp; done) | (simp; omega)) (hD) rfl (by first | exact .inl rfl | exact .inr rfl) rfl ?_
    simp [go_sem, ha, hb, hmin]
    repeat (refine And.intro (by first | omega | (intros; omega) | (intros; exact And.intro (by assumption) (by omega)) | kernel_rfl | grind) ?_)
    try (refine And.intro (by kernel_rfl) ?_)
    apply k9_; clear k9_
    refine Do.seqk fun _ k10_ => ?_
    refine Do.region [1,2,3,5,10,12,13,14,15,16,17] true ?_
    simp [go_sem, ha, hb, hmin]
    repeat (refine And.intro (by first | omega | (intros; omega) | (intros; exact And.intro (by assumption) (by omega)) | grind) ?_)
    apply k10_; clear k10_
    refine Do.seqk fun _ k11_ => ?_
    refine Do.region [1,2,3,5,10,12,13,14,15,16] true ?_
    simp [go_sem, ha, hb, hmin]
    repeat (refine And.intro (by first | omega | (intros; omega) | (intros; exact And.intro (by assumption) (by omega)) | grind) ?_)
    apply k11_; clear k11_
    refine Do.region [1,2,3,5,10,12,13,14,15] true ?_
    simp [go_sem, ha, hb, hmin]
    repeat (refine And.intro (by first | omega | (intros; omega) | (intros; exact And.intro (by assumption) (by omega)) | grind) ?_)
    apply k8_; clear k8_
    refine Do.region [1,2,3,5,10,12,13,14,15] true ?_
    simp [go_sem, ha, hb, hmin]
    repeat (refine And.intro (by first | omega | (intros; omega) | (intros; exact And.intro (by assumption) (by omega)) | grind) ?_)
    refine ⟨i + 1, St.le_of (by simp [keep, e1, anyNan_snoc, anyBad_snoc, Bool.or_assoc]) (by simp [keep, List.take_add_one, hg]), by omega, by simp; omega⟩
  · obtain rfl : i = ys.length := by omega
    rw [List.take_of_length_le (show ps.length ≤ ys.length by omega), List.take_of_length_le (by simp; omega)]
    refine Do.exit ?_
    simp [go_sem]
    apply k4_; clear k4_
    refine Do.seqk fun _ k12_ => ?_
    refine Do.block ?_
    refine Do.seqk fun _ k13_ => ?_
    refine Do.region [1,5,10,12,14,56] true ?_
    simp [go_sem]
    apply k13_; clear k13_
    refine Do.cond [1,5,10,12,14] rfl (fun h3 => ?_) (fun h3 => ?_) <;> simp [go_sem] at h3 ⊢
    · refine Do.seqk fun _ k14_ => ?_
      refine Do.region [10,11] true ?_
      simp [go_sem]
      repeat (refine And.intro (by first | omega | (intros; omega) | (intros; exact And.intro (by assumption) (by omega)) | grind) ?_)
      apply k14_; clear k14_
      refine Do.ret ?_
      simp [endQ, rets, ret1, go_sem]
      repeat (refine And.intro (by first | omega | (intros; omega) | (intros; exact And.intro (by assumption) (by omega)) | grind) ?_)
      rw [if_pos (by simpa using h3)] at hw2
      subst hw2
      exact TLe.t (.cons (PLe.flw (ret_zw rfl)) (.cons (PLe.refl _) .nil))
    · rw [if_neg (by simpa using h3)] at hw2
      refine Do.seqk fun _ k15_ => ?_
      refine Do.region [1,5,10,12,59] true ?_
      simp [go_sem]
      apply k15_; clear k15_
      refine Do.cond [1,5,10,12] rfl (fun h4 => ?_) (fun h4 => ?_) <;> simp [go_sem] at h4 ⊢
      · refine Do.seqk fun _ k16_ => ?_
        refine Do.region [10,11] true ?_
        simp [go_sem]
        repeat (refine And.intro (by first | omega | (intros; omega) | (intros; exact And.intro (by assumption) (by omega)) | grind) ?_)
        apply k16_; clear k16_
        refine Do.ret ?_
        simp [endQ, rets, ret1, go_sem]
        repeat (refine And.intro (by first | omega | (intros; omega) | (intros; exact And.intro (by assumption) (by omega)) | grind) ?_)
        rw [if_pos (by simpa using h4)] at hw2
        subst hw2
        exact TLe.t (.cons (PLe.flw (ret_zw rfl)) (.cons (PLe.refl _) .nil))
      · rw [if_neg (by simpa using h4)] at hw2
        refine Do.skip ?_
        simp [go_sem]
        apply k12_; clear k12_
        refine Do.seqk fun _ k17_ => ?_
        refine Do.region [10,11] true ?_
        simp [go_sem]
        repeat (refine And.intro (by first | omega | (intros; omega) | (intros; exact And.intro (by assumption) (by omega)) | grind) ?_)
        refine DoL.sealS true 1403 101 rfl ?_
        simp [go_sem, hpl]
        refine DoL.call true 1404 rfl rfl rfl rfl (by first | exact trivial | omega | (simp; done) | (simp; omega)) (hT) rfl (by first | exact .inl rfl | exact .inr rfl) rfl ?_
        simp [go_sem]
        repeat (refine And.intro (by first | omega | (intros; omega) | (intros; exact And.intro (by assumption) (by omega)) | grind) ?_)
        apply k17_; clear k17_
        refine Do.ret ?_
        simp [endQ, rets, ret1, go_sem]
        repeat (refine And.intro (by first | omega | (intros; omega) | (intros; exact And.intro (by assumption) (by omega)) | grind) ?_)
        subst hw2
        exact TLe.refl _
end Go.Proofs.YthpkhmbjmnhmoaaGreatDoor
/- The program awake: products. No condition. -/
namespace Go.Proofs.YthpkhmbjmnhmoaaGreatDoor
set_option linter.unusedVariables false
set_option linter.unusedSimpArgs false
set_option maxHeartbeats 4000000
set_option maxRecDepth 10000
theorem PFused_does {f p r : Int} {x y z : Fla} (hx : x.Ok) (hy : y.Ok) (hz : z.Ok) : Does Tryz.prog Gv 18 [Fm f p, .c (.i .i64 r), Fl x.k x.n x.e x.m, Fl y.k y.n y.e y.m, Fl z.k z.n z.e z.m] (Res (dotA f p r [x] [y] z)) := by
  have hD : Does Tryz.prog Gv 20 [Fm f p, .c (.i .i64 r), .s false [x.cs], .s false [y.cs], Fl z.k z.n z.e z.m] (Res (dotA f p r [x] [y] z)) := PDot_does (xs := [x]) (ys := [y]) (by simp) (by simp) (by simp [hx]) (by simp [hy]) hz
  generalize dotA f p r [x] [y] z = w at *
  refine Does.of (nt := 24) Tryz.func18 rfl rfl rfl (by simp) ?_
  simp only [argTm, PV.ext, Ce.ext]
  refine Do.seqk fun _ k1_ => ?_
  refine Do.region [1,5,7,8,9,10] true ?_
  simp [go_sem]
  apply k1_; clear k1_
  refine Do.seqk fun _ k2_ => ?_
  refine Do.region [10,11,12] true ?_
  simp [go_sem]
  repeat (refine And.intro (by first | omega | (intros; omega) | (intros; exact And.intro (by assumption) (by omega)) | grind) ?_)
  refine DoL.sealS true 107 103 rfl ?_
  simp [go_sem]
  refine DoL.sealS true 107 105 rfl ?_
  simp [go_sem]
  refine DoL.call true 108 rfl rfl rfl rfl (by first | exact trivial | omega | (simp; done) | (simp; omega)) (hD) rfl (by first | exact .inl rfl | exact .inr rfl) rfl ?_
  simp [go_sem]
  repeat (refine And.intro (by first | omega | (intros; omega) | (intros; exact And.intro (by assumption) (by omega)) | grind) ?_)
  apply k2_; clear k2_
  refine Do.ret ?_
  simp [endQ, rets, ret1, go_sem]
  repeat (refine And.intro (by first | omega | (intros; omega) | (intros; exact And.intro (by assumption) (by omega)) | grind) ?_)
  exact TLe.refl _
theorem awk_mul : mulP 5 11 0 ⟨1, false, 0, [33]⟩ ⟨1, false, 0, [63]⟩ = (⟨1, false, 5, 65⟩, 1, 0) := by kernel_rfl
theorem awk_dot : dotA 5 11 0 [⟨1, false, 0, [33]⟩] [⟨1, false, 0, [63]⟩] ⟨1, false, 0, [1]⟩ = (⟨1, false, 5, 65⟩, 0, 0) := by kernel_rfl
theorem awk_inf : mulP 5 11 0 ⟨0, false, 0, []⟩ ⟨2, false, 0, []⟩ = (⟨3, false, 0, 0⟩, 16, 0) := by kernel_rfl
theorem awk_same18 : sameP ⟨1, false, 5, 65⟩ ⟨1, false, 5, 65⟩ = true := by kernel_rfl
theorem nat_word' {n : Nat} (h0 : n ≠ 0) (h : n < 18446744073709551616) : nat n = [n] := by
  unfold nat; rw [dif_neg h0]; rw [show n / 18446744073709551616 = 0 by omega, nat_zero, Nat.mod_eq_of_lt h]
theorem awake18_does : Does Tryz.prog Gv 11 [] (.v (.c (.b true))) := by
  have o1 : (Fla.mk 1 false 0 [33]).Ok := ⟨by simp [Sh], fun w hw => by simp at hw; omega, by constructor <;> simp⟩
  have o2 : (Fla.mk 1 false 0 [63]).Ok := ⟨by simp [Sh], fun w hw => by simp at hw; omega, by constructor <;> simp⟩
  have o3 : (Fla.mk 1 false 0 [1]).Ok := ⟨by simp [Sh], fun w hw => by simp at hw; omega, by constructor <;> simp⟩
  have o4 : (Fla.mk 0 false 0 []).Ok := ⟨by simp [Sh], fun w hw => by simp at hw, by constructor <;> simp⟩
  have o5 : (Fla.mk 2 false 0 []).Ok := ⟨by simp [Sh], fun w hw => by simp at hw, by constructor <;> simp⟩
  have h1 := PMul_does (f := 5) (p := 11) (r := 0) o1 o2
  have h2 := PFused_does (f := 5) (p := 11) (r := 0) o1 o2 o3
  have h3 := PMul_does (f := 5) (p := 11) (r := 0) o4 o5
  have h4 := @Same_does 1 false 5 [65] 1 false 5 [65] (by simp [Sh]) (fun w hw => by simp at hw; omega) (by constructor <;> omega) (by simp [Sh]) (fun w hw => by simp at hw; omega) (by constructor <;> omega)
  rw [awk_mul] at h1
  rw [awk_dot] at h2
  rw [awk_inf] at h3
  rw [show val [65] = 65 from rfl, awk_same18] at h4
  have h1 : Does Tryz.prog Gv 12 [Fm 5 11, .c (.i .i64 0), Fl 1 false 0 [33], Fl 1 false 0 [63]] (.t [Fl 1 false 5 (nat 65), .c (.i .i64 1), .c (.i .i64 0)]) := h1
  have h2 : Does Tryz.prog Gv 18 [Fm 5 11, .c (.i .i64 0), Fl 1 false 0 [33], Fl 1 false 0 [63], Fl 1 false 0 [1]] (.t [Fl 1 false 5 (nat 65), .c (.i .i64 0), .c (.i .i64 0)]) := h2
  have h3 : Does Tryz.prog Gv 12 [Fm 5 11, .c (.i .i64 0), .a [.i .i64 0, .b false, .i .i64 0, .z], .a [.i .i64 2, .b false, .i .i64 0, .z]] (.t [Fl 3 false 0 (nat 0), .c (.i .i64 16), .c (.i .i64 0)]) :=
    h3.weak (.cons (PLe.refl _) (.cons (PLe.refl _) (.cons (PLe.flt (PLe.z false)) (.cons (PLe.flt (PLe.z false)) .nil))))
  rw [nat_word' (by decide) (by decide)] at h1 h2
  rw [nat_zero] at h3
  refine Does.of (nt := 101) Tryz.func11 rfl rfl rfl (by simp) ?_
  simp only [argTm, PV.ext, Ce.ext]
  refine Do.seqk fun _ k1_ => ?_
  refine Do.region [] true ?_
  simp [go_sem]
  apply k1_; clear k1_
  refine Do.seqk fun _ k2_ => ?_
  refine Do.region [1] true ?_
  simp [go_sem]
  repeat (refine And.intro (by first | omega | (intros; omega) | (intros; exact And.intro (by assumption) (by omega)) | grind) ?_)
  apply k2_; clear k2_
  refine Do.seqk fun _ k3_ => ?_
  refine Do.region [1,2] true ?_
  simp [go_sem]
  repeat (refine And.intro (by first | omega | (intros; omega) | (intros; exact And.intro (by assumption) (by omega)) | grind) ?_)
  apply k3_; clear k3_
  refine Do.seqk fun _ k4_ => ?_
  refine Do.region [1,2,3] true ?_
  simp [go_sem]
  repeat (refine And.intro (by first | omega | (intros; omega) | (intros; exact And.intro (by assumption) (by omega)) | grind) ?_)
  apply k4_; clear k4_
  refine Do.seqk fun _ k5_ => ?_
  refine Do.region [1,2,3,4] true ?_
  simp [go_sem]
  repeat (refine And.intro (by first | omega | (intros; omega) | (intros; exact And.intro (by assumption) (by omega)) | grind) ?_)
  apply k5_; clear k5_
  refine Do.seqk fun _ k6_ => ?_
  refine Do.frz 200 rfl ?_
  refine Do.frz 300 rfl ?_
  refine Do.frz 400 rfl ?_
  refine Do.region [1,2,3,4,5,6,7] true ?_
  simp [go_sem]
  repeat (refine And.intro (by first | omega | (intros; omega) | (intros; exact And.intro (by assumption) (by omega)) | grind) ?_)
  refine DoL.call true 504 rfl rfl rfl rfl (by first | exact trivial | omega | (simp; done) | (simp; omega)) (h1) rfl (by first | exact .inl rfl | exact .inr rfl) rfl ?_
  simp [go_sem]
  repeat (refine And.intro (by first | omega | (intros; omega) | (intros; exact And.intro (by assumption) (by omega)) | grind) ?_)
  apply k6_; clear k6_
  refine Do.seqk fun _ k7_ => ?_
  refine Do.region [1,5,6,7,8,9,10] true ?_
  simp [go_sem]
  repeat (refine And.intro (by first | omega | (intros; omega) | (intros; exact And.intro (by assumption) (by omega)) | grind) ?_)
  refine DoL.call true 605 rfl rfl rfl rfl (by first | exact trivial | omega | (simp; done) | (simp; omega)) (h2) rfl (by first | exact .inl rfl | exact .inr rfl) rfl ?_
  simp [go_sem]
  repeat (refine And.intro (by first | omega | (intros; omega) | (intros; exact And.intro (by assumption) (by omega)) | grind) ?_)
  apply k7_; clear k7_
  refine Do.seqk fun _ k8_ => ?_
  refine Do.region [5,6,7,8,9,10,11,12,13] true ?_
  simp [go_sem]
  repeat (refine And.intro (by first | omega | (intros; omega) | (intros; exact And.intro (by assumption) (by omega)) | grind) ?_)
  refine DoL.call true 704 rfl rfl rfl rfl (by first | exact trivial | omega | (simp; done) | (simp; omega)) (h3) rfl (by first | exact .inl rfl | exact .inr rfl) rfl ?_
  simp [go_sem]
  repeat (refine And.intro (by first | omega | (intros; omega) | (intros; exact And.intro (by assumption) (by omega)) | grind) ?_)
  apply k8_; clear k8_
  refine Do.seqk fun _ k9_ => ?_
  refine Do.region [0] true ?_
  simp [go_sem]
  repeat (refine And.intro (by first | omega | (intros; omega) | (intros; exact And.intro (by assumption) (by omega)) | grind) ?_)
  refine DoL.callg true 841 rfl rfl rfl rfl rfl (by simp [go_sem] <;> omega) (fun _ => h4) rfl (by first | exact .inl rfl | exact .inr rfl) rfl ?_
  simp [go_sem]
  repeat (refine And.intro (by first | omega | (intros; omega) | (intros; exact And.intro (by assumption) (by omega)) | grind) ?_)
  apply k9_; clear k9_
  refine Do.ret ?_
  simp [endQ, rets, ret1, go_sem]
  repeat (refine And.intro (by first | omega | (intros; omega) | (intros; exact And.intro (by assumption) (by omega)) | grind) ?_)
  exact TLe.refl _
theorem timesP_k (x y : Flt) : (timesP x y).2.1 = 0 ∨ (timesP x y).2.1 = 1 ∨ (timesP x y).2.1 = 2 ∨ (timesP x y).2.1 = 3 := by
  unfold timesP
  split
  · simp
  · split
    · simp
    · split <;> simp
theorem roundT_fine {f p r : Int} (hf : fmOk f p = true) {t : Bool × Int × Nu} (ht : t.2.1 = 0 ∨ t.2.1 = 1 ∨ t.2.1 = 2 ∨ t.2.1 = 3) : rcanon (roundT t f p r).1 = (roundT t f p r).1 ∧ Fine (roundT t f p r).1 := by
  unfold roundT
  split
  · exact ⟨rfl, fine_nan⟩
  · split
    · exact ⟨rfl, fine_nan⟩
    · split
      · rename_i h1 h2
        rcases ht with h | h | h | h
        · rw [h]; exact ⟨rfl, fine_zero⟩
        · exact absurd h h2
        · rw [h]; exact ⟨rfl, fine_inf⟩
        · exact absurd h h1
      · unfold Nu.round
        split
        · exact ⟨rfl, fine_zero⟩
        · exact ⟨roundP_fix hf, roundP_fine hf⟩
theorem mulP_fine {f p r : Int} {x y : Fla} : rcanon (mulP f p r x y).1 = (mulP f p r x y).1 ∧ Fine (mulP f p r x y).1 := by
  unfold mulP
  split
  · rename_i h
    exact roundT_fine (argsE_zero h).2.2.2.2.1 (timesP_k _ _)
  · exact ⟨rfl, fine_zero⟩
theorem dotA_fine {f p r : Int} {xs ys : List Fla} {z : Fla} : rcanon (dotA f p r xs ys z).1 = (dotA f p r xs ys z).1 ∧ Fine (dotA f p r xs ys z).1 := by
  unfold dotA
  split
  · rename_i h
    have hf := (argsE_zero h).2.2.2.2.1
    exact ⟨float_fix hf, float_fine hf⟩
  · exact ⟨rfl, fine_zero⟩
end Go.Proofs.YthpkhmbjmnhmoaaGreatDoor
/- The law ProductMuls. No condition. -/
namespace Go.Proofs.YthpkhmbjmnhmoaaGreatDoor
set_option linter.unusedVariables false
set_option linter.unusedSimpArgs false
set_option maxHeartbeats 4000000
set_option maxRecDepth 10000
theorem mul_same {f p r : Int} {x y : Fla} (he : argsE f p r false [x, y] = 0) (ho : ∀ u ∈ [x, y], u.Ok) : mulP f p r x y = ((mulR f p r x.flt y.flt).1, (mulR f p r x.flt y.flt).2, 0) := by
  obtain ⟨h1, h2, h3, h4, h5, h6⟩ := argsE_zero he
  have hhx : (holdsP f p x.flt).2 = true := by simpa using List.all_eq_true.1 h6 x (by simp)
  have hhy : (holdsP f p y.flt).2 = true := by simpa using List.all_eq_true.1 h6 y (by simp)
  rw [mulP, if_pos he, times_mul (held_cf hhx) (held_cf hhy), ← (held_rcanon hhx).1, ← (held_rcanon hhy).1, mulR_rc]
theorem ProductMuls_does {f p r : Int} {x y : Fla} (hx : Ws x.m) (ex : I64 x.e) (hy : Ws y.m) (ey : I64 y.e) : Does Tryz.prog Gv 3 [Fm f p, .c (.i .i64 r), Fl x.k x.n x.e x.m, Fl y.k y.n y.e y.m] (.v (.c (.b true))) := by
  have hS : Does Tryz.prog Gv 10 [.s false [x.cs, y.cs]] (.v (.c (.b (shortP [x, y])))) := Short15_does (l := [x, y]) (by simp)
  cases hs : shortP [x, y] with
  | false =>
    rw [hs] at hS
    refine Does.of (nt := 67) Tryz.func3 rfl rfl rfl (by simp) ?_
    simp only [argTm, PV.ext, Ce.ext]
    refine Do.seqk fun _ k1_ => ?_
    refine Do.region [1,4,6,7] true ?_
    simp [go_sem]
    apply k1_; clear k1_
    refine Do.seqk fun _ k2_ => ?_
    refine Do.seqk fun _ k3_ => ?_
    refine Do.region [1,4,6,7,19] true ?_
    simp [go_sem]
    repeat (refine And.intro (by first | omega | (intros; omega) | (intros; exact And.intro (by assumption) (by omega)) | grind) ?_)
    refine DoL.sealS true 103 102 rfl ?_
    simp [go_sem]
    refine DoL.call true 104 rfl rfl rfl rfl (by first | exact trivial | omega | (simp; done) | (simp; omega)) (hS) rfl (by first | exact .inl rfl | exact .inr rfl) rfl ?_
    simp [go_sem]
    repeat (refine And.intro (by first | omega | (intros; omega) | (intros; exact And.intro (by assumption) (by omega)) | grind) ?_)
    apply k3_; clear k3_
    refine Do.cond [1,4,6,7] rfl (fun h => ?_) (fun h => ?_) <;> simp [go_sem] at h ⊢
    refine Do.seqk fun _ k4_ => ?_
    refine Do.region [8] true ?_
    simp [go_sem]
    refine DoL.call true 201 rfl rfl rfl rfl (by first | exact trivial | omega | (simp; done) | (simp; omega)) (awake18_does) rfl (by first | exact .inl rfl | exact .inr rfl) rfl ?_
    simp [go_sem]
    apply k4_; clear k4_
    refine Do.ret ?_
    simp [endQ, rets, ret1, go_sem]
    repeat (refine And.intro (by first | omega | (intros; omega) | (intros; exact And.intro (by assumption) (by omega)) | grind) ?_)
    exact TLe.refl _
  | true =>
    rw [hs] at hS
    have hsx : x.m.length ≤ 40 ∧ y.m.length ≤ 40 := by simpa [shortP] using hs
    have ox : x.Ok := ⟨by simp [Sh]; omega, hx, ex⟩
    have oy : y.Ok := ⟨by simp [Sh]; omega, hy, ey⟩
    have ho : ∀ u ∈ [x, y], u.Ok := by simp [ox, oy]
    have hT := PMul_does (f := f) (p := p) (r := r) ox oy
    have hA : Does Tryz.prog Gv 13 [Fm f p, .c (.i .i64 r), .s false [x.cs, y.cs]] (.int .i64 (argsE f p r false [x, y])) := @KArgs_does Gv f p r [x, y] (by simp) ho
    obtain ⟨hfx, hfn⟩ := @mulP_fine f p r x y
    by_cases he : argsE f p r false [x, y] = 0
    · obtain ⟨h1, h2, h3, h4, h5, h6⟩ := argsE_zero he
      have hrt := held_rt h6 ho h1
      have hM := @RMul18_does Gv f p r h5 h2 h3 x y (hrt x (by simp)) (hrt y (by simp))
      rw [mul_same he ho] at hT hfx hfn
      rw [he] at hA
      generalize mulR f p r x.flt y.flt = z at *
      have hF := @Fits_same Gv z.1 z.2 hfn hfx
      have hT : Does Tryz.prog Gv 12 [Fm f p, .c (.i .i64 r), Fl x.k x.n x.e x.m, Fl y.k y.n y.e y.m] (.t [z.1.pv, .c (.i .i64 z.2), .c (.i .i64 0)]) := hT
      refine Does.of (nt := 67) Tryz.func3 rfl rfl rfl (by simp) ?_
      simp only [argTm, PV.ext, Ce.ext]
      refine Do.seqk fun _ k1_ => ?_
      refine Do.region [1,4,6,7] true ?_
      simp [go_sem]
      apply k1_; clear k1_
      refine Do.seqk fun _ k2_ => ?_
      refine Do.seqk fun _ k3_ => ?_
      refine Do.region [1,4,6,7,19] true ?_
      simp [go_sem]
      repeat (refine And.intro (by first | omega | (intros; omega) | (intros; exact And.intro (by assumption) (by omega)) | grind) ?_)
      refine DoL.sealS true 103 102 rfl ?_
      simp [go_sem]
      refine DoL.call true 104 rfl rfl rfl rfl (by first | exact trivial | omega | (simp; done) | (simp; omega)) (hS) rfl (by first | exact .inl rfl | exact .inr rfl) rfl ?_
      simp [go_sem]
      repeat (refine And.intro (by first | omega | (intros; omega) | (intros; exact And.intro (by assumption) (by omega)) | grind) ?_)
      apply k3_; clear k3_
      refine Do.cond [1,4,6,7] rfl (fun h => ?_) (fun h => ?_) <;> simp [go_sem] at h ⊢
      refine Do.skip ?_
      simp [go_sem]
      apply k2_; clear k2_
      refine Do.seqk fun _ k4_ => ?_
      refine Do.region [1,4,6,7,9,10,11] true ?_
      simp [go_sem]
      repeat (refine And.intro (by first | omega | (intros; omega) | (intros; exact And.intro (by assumption) (by omega)) | grind) ?_)
      refine DoL.call true 305 rfl rfl rfl rfl (by first | exact trivial | omega | (simp; done) | (simp; omega)) (hT) rfl (by first | exact .inl rfl | exact .inr rfl) rfl ?_
      simp [go_sem]
      repeat (refine And.intro (by first | omega | (intros; omega) | (intros; exact And.intro (by assumption) (by omega)) | grind) ?_)
      apply k4_; clear k4_
      refine Do.seqk fun _ k5_ => ?_
      refine Do.region [1,4,6,7,9,10,11,12] true ?_
      simp [go_sem]
      repeat (refine And.intro (by first | omega | (intros; omega) | (intros; exact And.intro (by assumption) (by omega)) | grind) ?_)
      refine DoL.sealS true 405 404 rfl ?_
      simp [go_sem]
      refine DoL.call true 406 rfl rfl rfl rfl (by first | exact trivial | omega | (simp; done) | (simp; omega)) (hA) rfl (by first | exact .inl rfl | exact .inr rfl) rfl ?_
      simp [go_sem]
      apply k5_; clear k5_
      refine Do.seqk fun _ k6_ => ?_
      refine Do.seqk fun _ k7_ => ?_
      refine Do.region [1,4,6,7,9,10,11,12,37] true ?_
      simp [go_sem]
      apply k7_; clear k7_
      refine Do.cond [1,4,6,7,9,10,11,12] rfl (fun h => ?_) (fun h => ?_) <;> simp [go_sem] at h ⊢
      refine Do.skip ?_
      simp [go_sem]
      apply k6_; clear k6_
      refine Do.seqk fun _ k8_ => ?_
      refine Do.draw [9,10,11,13,14] true (by kernel_rfl) ?_
      simp [go_sem]
      repeat (refine And.intro (by first | omega | (intros; omega) | (intros; exact And.intro (by assumption) (by omega)) | kernel_rfl | grind) ?_)
      refine DoLD.call true 702 rfl rfl rfl rfl (by first | exact trivial | omega | (simp; done) | (simp; omega)) (Fmt_does) rfl (by first | exact .inl rfl | exact .inr rfl) rfl ?_
      simp [go_sem]
      repeat (refine And.intro (by first | omega | (intros; omega) | (intros; exact And.intro (by assumption) (by omega)) | kernel_rfl | grind) ?_)
      refine DoLD.call true 705 rfl rfl rfl rfl (by first | exact trivial | omega | (simp; done) | (simp; omega)) (Their_does) rfl (by first | exact .inl rfl | exact .inr rfl) rfl ?_
      simp [go_sem]
      repeat (refine And.intro (by first | omega | (intros; omega) | (intros; exact And.intro (by assumption) (by omega)) | kernel_rfl | grind) ?_)
      refine DoLD.call true 707 rfl rfl rfl rfl (by first | exact trivial | omega | (simp; done) | (simp; omega)) (Their_does) rfl (by first | exact .inl rfl | exact .inr rfl) rfl ?_
      simp [go_sem]
      refine DoLD.call true 708 rfl rfl rfl rfl (by first | exact trivial | omega | (simp; done) | (simp; omega)) (hM) rfl (by first | exact .inl rfl | exact .inr rfl) rfl ?_
      simp [go_sem]
      repeat (refine And.intro (by first | omega | (intros; omega) | (intros; exact And.intro (by assumption) (by omega)) | kernel_rfl | grind) ?_)
      try (refine And.intro (by kernel_rfl) ?_)
      apply k8_; clear k8_
      refine Do.seqk fun _ k9_ => ?_
      refine Do.region [8] true ?_
      simp [go_sem]
      repeat (refine And.intro (by first | omega | (intros; omega) | (intros; exact And.intro (by assumption) (by omega)) | grind) ?_)
      refine DoL.call true 806 rfl rfl rfl rfl (by first | exact trivial | omega | (simp; done) | (simp; omega)) (hF) rfl (by first | exact .inl rfl | exact .inr rfl) rfl ?_
      simp [go_sem]
      refine DoL.callg true 808 rfl rfl rfl rfl rfl (by simp [go_sem] <;> omega) (fun _ => awake18_does) rfl (by first | exact .inl rfl | exact .inr rfl) rfl ?_
      simp [go_sem]
      apply k9_; clear k9_
      refine Do.ret ?_
      simp [endQ, rets, ret1, go_sem]
      repeat (refine And.intro (by first | omega | (intros; omega) | (intros; exact And.intro (by assumption) (by omega)) | grind) ?_)
      exact TLe.refl _
    · have hF := @Fits_none 0 0 false [] 0 (argsE f p r false [x, y]) ⟨rfl, rfl, rfl, rfl⟩ he (argsE f p r false [x, y])
      rw [mulP, if_neg he] at hT
      generalize argsE f p r false [x, y] = ae at *
      have hT : Does Tryz.prog Gv 12 [Fm f p, .c (.i .i64 r), Fl x.k x.n x.e x.m, Fl y.k y.n y.e y.m] (.t [Fl 0 false 0 (nat 0), .c (.i .i64 0), .c (.i .i64 ae)]) := hT
      rw [nat_zero] at hT
      refine Does.of (nt := 67) Tryz.func3 rfl rfl rfl (by simp) ?_
      simp only [argTm, PV.ext, Ce.ext]
      refine Do.seqk fun _ k1_ => ?_
      refine Do.region [1,4,6,7] true ?_
      simp [go_sem]
      apply k1_; clear k1_
      refine Do.seqk fun _ k2_ => ?_
      refine Do.seqk fun _ k3_ => ?_
      refine Do.region [1,4,6,7,19] true ?_
      simp [go_sem]
      repeat (refine And.intro (by first | omega | (intros; omega) | (intros; exact And.intro (by assumption) (by omega)) | grind) ?_)
      refine DoL.sealS true 103 102 rfl ?_
      simp [go_sem]
      refine DoL.call true 104 rfl rfl rfl rfl (by first | exact trivial | omega | (simp; done) | (simp; omega)) (hS) rfl (by first | exact .inl rfl | exact .inr rfl) rfl ?_
      simp [go_sem]
      repeat (refine And.intro (by first | omega | (intros; omega) | (intros; exact And.intro (by assumption) (by omega)) | grind) ?_)
      apply k3_; clear k3_
      refine Do.cond [1,4,6,7] rfl (fun h => ?_) (fun h => ?_) <;> simp [go_sem] at h ⊢
      refine Do.skip ?_
      simp [go_sem]
      apply k2_; clear k2_
      refine Do.seqk fun _ k4_ => ?_
      refine Do.region [1,4,6,7,9,10,11] true ?_
      simp [go_sem]
      repeat (refine And.intro (by first | omega | (intros; omega) | (intros; exact And.intro (by assumption) (by omega)) | grind) ?_)
      refine DoL.call true 305 rfl rfl rfl rfl (by first | exact trivial | omega | (simp; done) | (simp; omega)) (hT) rfl (by first | exact .inl rfl | exact .inr rfl) rfl ?_
      simp [go_sem]
      repeat (refine And.intro (by first | omega | (intros; omega) | (intros; exact And.intro (by assumption) (by omega)) | grind) ?_)
      apply k4_; clear k4_
      refine Do.seqk fun _ k5_ => ?_
      refine Do.region [1,4,6,7,9,10,11,12] true ?_
      simp [go_sem]
      repeat (refine And.intro (by first | omega | (intros; omega) | (intros; exact And.intro (by assumption) (by omega)) | grind) ?_)
      refine DoL.sealS true 405 404 rfl ?_
      simp [go_sem]
      refine DoL.call true 406 rfl rfl rfl rfl (by first | exact trivial | omega | (simp; done) | (simp; omega)) (hA) rfl (by first | exact .inl rfl | exact .inr rfl) rfl ?_
      simp [go_sem]
      apply k5_; clear k5_
      refine Do.seqk fun _ k6_ => ?_
      refine Do.seqk fun _ k7_ => ?_
      refine Do.region [1,4,6,7,9,10,11,12,37] true ?_
      simp [go_sem]
      apply k7_; clear k7_
      refine Do.cond [1,4,6,7,9,10,11,12] rfl (fun h5 => ?_) (fun h5 => ?_) <;> simp [go_sem] at h5 ⊢
      · refine Do.seqk fun _ k8_ => ?_
        refine Do.region [8] true ?_
        simp [go_sem]
        repeat (refine And.intro (by first | omega | (intros; omega) | (intros; exact And.intro (by assumption) (by omega)) | grind) ?_)
        refine DoL.call true 606 rfl rfl rfl rfl (by first | exact trivial | omega | (simp; done) | (simp; omega)) (hF) rfl (by first | exact .inl rfl | exact .inr rfl) rfl ?_
        simp [go_sem]
        refine DoL.callg true 608 rfl rfl rfl rfl rfl (by simp [go_sem] <;> omega) (fun _ => awake18_does) rfl (by first | exact .inl rfl | exact .inr rfl) rfl ?_
        simp [go_sem]
        apply k8_; clear k8_
        refine Do.ret ?_
        simp [endQ, rets, ret1, go_sem]
        repeat (refine And.intro (by first | omega | (intros; omega) | (intros; exact And.intro (by assumption) (by omega)) | grind) ?_)
        exact TLe.refl _
      · exact absurd h5 he
end Go.Proofs.YthpkhmbjmnhmoaaGreatDoor
/- The law ProductFused. No condition. -/
namespace Go.Proofs.YthpkhmbjmnhmoaaGreatDoor
set_option linter.unusedVariables false
set_option linter.unusedSimpArgs false
set_option maxHeartbeats 4000000
set_option maxRecDepth 10000
theorem dot_ref {f p r : Int} {xs ys : List Fla} {z : Fla} (he : dotE f p r xs ys z = 0) (ho : ∀ u ∈ xs ++ ys ++ [z], u.Ok) :
    (fmOk f p = true ∧ 0 ≤ r ∧ r ≤ 4 ∧ xs.length = ys.length ∧ ys.length ≤ 1000 ∧ (∀ x ∈ xs, Rs x) ∧ (∀ x ∈ ys, Rs x) ∧ Rt z) ∧
    dotA f p r xs ys z = ((dotR f p r ((xs.map fun x => rcanon x.flt).zip (ys.map fun x => rcanon x.flt)) (rcanon z.flt)).1, (dotR f p r ((xs.map fun x => rcanon x.flt).zip (ys.map fun x => rcanon x.flt)) (rcanon z.flt)).2, 0) := by
  have he' := he
  unfold dotE at he'
  obtain ⟨h1, h2, h3, h4, h5, h6⟩ := argsE_zero he'
  have hall : ∀ x ∈ xs ++ ys ++ [z], (holdsP f p x.flt).2 = true := fun x hx => by simpa using List.all_eq_true.1 h6 x hx
  have hrt := held_rt h6 ho h1
  have hlen : xs.length = ys.length ∧ ys.length ≤ 1000 := by simp at h4; omega
  refine ⟨⟨h5, h2, h3, hlen.1, hlen.2, fun x hx => held_rs h5 (hall x (by simp [hx])) (hrt x (by simp [hx])), fun x hx => held_rs h5 (hall x (by simp [hx])) (hrt x (by simp [hx])), hrt z (by simp)⟩, ?_⟩
  have ex : heldL f p xs = xs.map fun x => rcanon x.flt := by
    unfold heldL
    exact List.map_congr_left fun x hx => (held_rcanon (hall x (by simp [hx]))).1.symm
  have ey : heldL f p ys = ys.map fun x => rcanon x.flt := by
    unfold heldL
    exact List.map_congr_left fun x hx => (held_rcanon (hall x (by simp [hx]))).1.symm
  have ez := (held_rcanon (hall z (by simp))).1
  have hs : dotP f p r (tsOf ((heldL f p xs).zip (heldL f p ys))) (holdsP f p z.flt).1 = dotR f p r ((heldL f p xs).zip (heldL f p ys)) (holdsP f p z.flt).1 := by
    refine dot_same (w := -200000) ?_ (held_cf (hall z (by simp))) (by omega) ?_ ?_
    · intro q hq
      obtain ⟨q1, q2⟩ := q
      have m1 := (List.of_mem_zip hq).1
      have m2 := (List.of_mem_zip hq).2
      obtain ⟨x, hx, e1⟩ := List.mem_map.1 m1
      obtain ⟨y, hy, e2⟩ := List.mem_map.1 m2
      simp only [← e1, ← e2]
      exact ⟨held_cf (hall x (by simp [hx])), held_cf (hall y (by simp [hy]))⟩
    · intro q hq _ _
      obtain ⟨q1, q2⟩ := q
      have m1 := (List.of_mem_zip hq).1
      have m2 := (List.of_mem_zip hq).2
      obtain ⟨x, hx, e1⟩ := List.mem_map.1 m1
      obtain ⟨y, hy, e2⟩ := List.mem_map.1 m2
      have s1 := held_small h5 (hall x (by simp [hx]))
      have s2 := held_small h5 (hall y (by simp [hy]))
      simp only [← e1, ← e2]
      omega
    · intro _
      have := held_small h5 (hall z (by simp))
      omega
  rw [dotA, if_pos he, hs, ex, ey, ez]
theorem ProductFused_does {f p r : Int} {x y z : Fla} (hx : Ws x.m) (ex : I64 x.e) (hy : Ws y.m) (ey : I64 y.e) (hz : Ws z.m) (ez : I64 z.e) : Does Tryz.prog Gv 4 [Fm f p, .c (.i .i64 r), Fl x.k x.n x.e x.m, Fl y.k y.n y.e y.m, Fl z.k z.n z.e z.m] (.v (.c (.b true))) := by
  have hS : Does Tryz.prog Gv 10 [.s false [x.cs, y.cs, z.cs]] (.v (.c (.b (shortP [x, y, z])))) := Short15_does (l := [x, y, z]) (by simp)
  cases hs : shortP [x, y, z] with
  | false =>
    rw [hs] at hS
    refine Does.of (nt := 76) Tryz.func4 rfl rfl rfl (by simp) ?_
    simp only [argTm, PV.ext, Ce.ext]
    refine Do.seqk fun _ k1_ => ?_
    refine Do.region [1,5,7,8,9] true ?_
    simp [go_sem]
    apply k1_; clear k1_
    refine Do.seqk fun _ k2_ => ?_
    refine Do.seqk fun _ k3_ => ?_
    refine Do.region [1,5,7,8,9,22] true ?_
    simp [go_sem]
    repeat (refine And.intro (by first | omega | (intros; omega) | (intros; exact And.intro (by assumption) (by omega)) | grind) ?_)
    refine DoL.sealS true 104 103 rfl ?_
    simp [go_sem]
    refine DoL.call true 105 rfl rfl rfl rfl (by first | exact trivial | omega | (simp; done) | (simp; omega)) (hS) rfl (by first | exact .inl rfl | exact .inr rfl) rfl ?_
    simp [go_sem]
    repeat (refine And.intro (by first | omega | (intros; omega) | (intros; exact And.intro (by assumption) (by omega)) | grind) ?_)
    apply k3_; clear k3_
    refine Do.cond [1,5,7,8,9] rfl (fun h => ?_) (fun h => ?_) <;> simp [go_sem] at h ⊢
    refine Do.seqk fun _ k4_ => ?_
    refine Do.region [10] true ?_
    simp [go_sem]
    refine DoL.call true 201 rfl rfl rfl rfl (by first | exact trivial | omega | (simp; done) | (simp; omega)) (awake18_does) rfl (by first | exact .inl rfl | exact .inr rfl) rfl ?_
    simp [go_sem]
    apply k4_; clear k4_
    refine Do.ret ?_
    simp [endQ, rets, ret1, go_sem]
    repeat (refine And.intro (by first | omega | (intros; omega) | (intros; exact And.intro (by assumption) (by omega)) | grind) ?_)
    exact TLe.refl _
  | true =>
    rw [hs] at hS
    have hsx : x.m.length ≤ 40 ∧ y.m.length ≤ 40 ∧ z.m.length ≤ 40 := by simpa [shortP] using hs
    have ox : x.Ok := ⟨by simp [Sh]; omega, hx, ex⟩
    have oy : y.Ok := ⟨by simp [Sh]; omega, hy, ey⟩
    have oz : z.Ok := ⟨by simp [Sh]; omega, hz, ez⟩
    have ho : ∀ u ∈ [x] ++ [y] ++ [z], u.Ok := by simp [ox, oy, oz]
    have hT := PFused_does (f := f) (p := p) (r := r) ox oy oz
    have hA : Does Tryz.prog Gv 13 [Fm f p, .c (.i .i64 r), .s false [x.cs, y.cs, z.cs]] (.int .i64 (argsE f p r false [x, y, z])) := @KArgs_does Gv f p r [x, y, z] (by simp) (by simpa using ho)
    have hE : dotE f p r [x] [y] z = argsE f p r false [x, y, z] := rfl
    obtain ⟨hfx, hfn⟩ := @dotA_fine f p r [x] [y] z
    by_cases he : argsE f p r false [x, y, z] = 0
    · obtain ⟨⟨h1, h2, h3, h4, h5, h6, h7, h8⟩, hd⟩ := dot_ref (hE.trans he) ho
      have hD := @RDot_does Gv f p r h1 h2 h3 [x] [y] z h4 (by omega) h6 h7 h8
      rw [hd] at hT hfx hfn
      rw [he] at hA
      generalize dotR f p r (([x].map fun x => rcanon x.flt).zip ([y].map fun x => rcanon x.flt)) (rcanon z.flt) = w at *
      have hF := @Fits_same Gv w.1 w.2 hfn hfx
      have hT : Does Tryz.prog Gv 18 [Fm f p, .c (.i .i64 r), Fl x.k x.n x.e x.m, Fl y.k y.n y.e y.m, Fl z.k z.n z.e z.m] (.t [w.1.pv, .c (.i .i64 w.2), .c (.i .i64 0)]) := hT
      have hD : Does Tryz.prog Gv 19 [Fm f p, .c (.i .i64 r), .s false [x.cs], .s false [y.cs], Fl z.k z.n z.e z.m] (.t [w.1.pw, .c (.i .i64 w.2)]) := hD
      refine Does.of (nt := 76) Tryz.func4 rfl rfl rfl (by simp) ?_
      simp only [argTm, PV.ext, Ce.ext]
      refine Do.seqk fun _ k1_ => ?_
      refine Do.region [1,5,7,8,9] true ?_
      simp [go_sem]
      apply k1_; clear k1_
      refine Do.seqk fun _ k2_ => ?_
      refine Do.seqk fun _ k3_ => ?_
      refine Do.region [1,5,7,8,9,22] true ?_
      simp [go_sem]
      repeat (refine And.intro (by first | omega | (intros; omega) | (intros; exact And.intro (by assumption) (by omega)) | grind) ?_)
      refine DoL.sealS true 104 103 rfl ?_
      simp [go_sem]
      refine DoL.call true 105 rfl rfl rfl rfl (by first | exact trivial | omega | (simp; done) | (simp; omega)) (hS) rfl (by first | exact .inl rfl | exact .inr rfl) rfl ?_
      simp [go_sem]
      repeat (refine And.intro (by first | omega | (intros; omega) | (intros; exact And.intro (by assumption) (by omega)) | grind) ?_)
      apply k3_; clear k3_
      refine Do.cond [1,5,7,8,9] rfl (fun h => ?_) (fun h => ?_) <;> simp [go_sem] at h ⊢
      refine Do.skip ?_
      simp [go_sem]
      apply k2_; clear k2_
      refine Do.seqk fun _ k4_ => ?_
      refine Do.region [1,5,7,8,9,11,12,13] true ?_
      simp [go_sem]
      repeat (refine And.intro (by first | omega | (intros; omega) | (intros; exact And.intro (by assumption) (by omega)) | grind) ?_)
      refine DoL.call true 306 rfl rfl rfl rfl (by first | exact trivial | omega | (simp; done) | (simp; omega)) (hT) rfl (by first | exact .inl rfl | exact .inr rfl) rfl ?_
      simp [go_sem]
      repeat (refine And.intro (by first | omega | (intros; omega) | (intros; exact And.intro (by assumption) (by omega)) | grind) ?_)
      apply k4_; clear k4_
      refine Do.seqk fun _ k5_ => ?_
      refine Do.region [1,5,7,8,9,11,12,13,14] true ?_
      simp [go_sem]
      repeat (refine And.intro (by first | omega | (intros; omega) | (intros; exact And.intro (by assumption) (by omega)) | grind) ?_)
      refine DoL.sealS true 406 405 rfl ?_
      simp [go_sem]
      refine DoL.call true 407 rfl rfl rfl rfl (by first | exact trivial | omega | (simp; done) | (simp; omega)) (hA) rfl (by first | exact .inl rfl | exact .inr rfl) rfl ?_
      simp [go_sem]
      apply k5_; clear k5_
      refine Do.seqk fun _ k6_ => ?_
      refine Do.seqk fun _ k7_ => ?_
      refine Do.region [1,5,7,8,9,11,12,13,14,42] true ?_
      simp [go_sem]
      apply k7_; clear k7_
      refine Do.cond [1,5,7,8,9,11,12,13,14] rfl (fun h => ?_) (fun h => ?_) <;> simp [go_sem] at h ⊢
      refine Do.skip ?_
      simp [go_sem]
      apply k6_; clear k6_
      refine Do.seqk fun _ k8_ => ?_
      refine Do.draw [11,12,13,15,16] true (by kernel_rfl) ?_
      simp [go_sem]
      repeat (refine And.intro (by first | omega | (intros; omega) | (intros; exact And.intro (by assumption) (by omega)) | kernel_rfl | grind) ?_)
      refine DoLD.call true 702 rfl rfl rfl rfl (by first | exact trivial | omega | (simp; done) | (simp; omega)) (Fmt_does) rfl (by first | exact .inl rfl | exact .inr rfl) rfl ?_
      simp [go_sem]
      repeat (refine And.intro (by first | omega | (intros; omega) | (intros; exact And.intro (by assumption) (by omega)) | kernel_rfl | grind) ?_)
      refine DoLD.call true 705 rfl rfl rfl rfl (by first | exact trivial | omega | (simp; done) | (simp; omega)) (Their_does) rfl (by first | exact .inl rfl | exact .inr rfl) rfl ?_
      simp [go_sem]
      repeat (refine And.intro (by first | omega | (intros; omega) | (intros; exact And.intro (by assumption) (by omega)) | kernel_rfl | grind) ?_)
      refine DoLD.call true 708 rfl rfl rfl rfl (by first | exact trivial | omega | (simp; done) | (simp; omega)) (Their_does) rfl (by first | exact .inl rfl | exact .inr rfl) rfl ?_
      simp [go_sem]
      repeat (refine And.intro (by first | omega | (intros; omega) | (intros; exact And.intro (by assumption) (by omega)) | kernel_rfl | grind) ?_)
      refine DoLD.call true 711 rfl rfl rfl rfl (by first | exact trivial | omega | (simp; done) | (simp; omega)) (Their_does) rfl (by first | exact .inl rfl | exact .inr rfl) rfl ?_
      simp [go_sem]
      refine DoLD.call true 712 rfl rfl rfl rfl (by first | exact trivial | omega | (simp; done) | (simp; omega)) (hD) rfl (by first | exact .inl rfl | exact .inr rfl) rfl ?_
      simp [go_sem]
      repeat (refine And.intro (by first | omega | (intros; omega) | (intros; exact And.intro (by assumption) (by omega)) | kernel_rfl | grind) ?_)
      try (refine And.intro (by kernel_rfl) ?_)
      apply k8_; clear k8_
      refine Do.seqk fun _ k9_ => ?_
      refine Do.region [10] true ?_
      simp [go_sem]
      repeat (refine And.intro (by first | omega | (intros; omega) | (intros; exact And.intro (by assumption) (by omega)) | grind) ?_)
      refine DoL.call true 806 rfl rfl rfl rfl (by first | exact trivial | omega | (simp; done) | (simp; omega)) (hF) rfl (by first | exact .inl rfl | exact .inr rfl) rfl ?_
      simp [go_sem]
      refine DoL.callg true 808 rfl rfl rfl rfl rfl (by simp [go_sem] <;> omega) (fun _ => awake18_does) rfl (by first | exact .inl rfl | exact .inr rfl) rfl ?_
      simp [go_sem]
      apply k9_; clear k9_
      refine Do.ret ?_
      simp [endQ, rets, ret1, go_sem]
      repeat (refine And.intro (by first | omega | (intros; omega) | (intros; exact And.intro (by assumption) (by omega)) | grind) ?_)
      exact TLe.refl _
    · have hF := @Fits_none 0 0 false [] 0 (argsE f p r false [x, y, z]) ⟨rfl, rfl, rfl, rfl⟩ he (argsE f p r false [x, y, z])
      rw [dotA, hE, if_neg he] at hT
      generalize argsE f p r false [x, y, z] = ae at *
      have hT : Does Tryz.prog Gv 18 [Fm f p, .c (.i .i64 r), Fl x.k x.n x.e x.m, Fl y.k y.n y.e y.m, Fl z.k z.n z.e z.m] (.t [Fl 0 false 0 (nat 0), .c (.i .i64 0), .c (.i .i64 ae)]) := hT
      rw [nat_zero] at hT
      refine Does.of (nt := 76) Tryz.func4 rfl rfl rfl (by simp) ?_
      simp only [argTm, PV.ext, Ce.ext]
      refine Do.seqk fun _ k1_ => ?_
      refine Do.region [1,5,7,8,9] true ?_
      simp [go_sem]
      apply k1_; clear k1_
      refine Do.seqk fun _ k2_ => ?_
      refine Do.seqk fun _ k3_ => ?_
      refine Do.region [1,5,7,8,9,22] true ?_
      simp [go_sem]
      repeat (refine And.intro (by first | omega | (intros; omega) | (intros; exact And.intro (by assumption) (by omega)) | grind) ?_)
      refine DoL.sealS true 104 103 rfl ?_
      simp [go_sem]
      refine DoL.call true 105 rfl rfl rfl rfl (by first | exact trivial | omega | (simp; done) | (simp; omega)) (hS) rfl (by first | exact .inl rfl | exact .inr rfl) rfl ?_
      simp [go_sem]
      repeat (refine And.intro (by first | omega | (intros; omega) | (intros; exact And.intro (by assumption) (by omega)) | grind) ?_)
      apply k3_; clear k3_
      refine Do.cond [1,5,7,8,9] rfl (fun h => ?_) (fun h => ?_) <;> simp [go_sem] at h ⊢
      refine Do.skip ?_
      simp [go_sem]
      apply k2_; clear k2_
      refine Do.seqk fun _ k4_ => ?_
      refine Do.region [1,5,7,8,9,11,12,13] true ?_
      simp [go_sem]
      repeat (refine And.intro (by first | omega | (intros; omega) | (intros; exact And.intro (by assumption) (by omega)) | grind) ?_)
      refine DoL.call true 306 rfl rfl rfl rfl (by first | exact trivial | omega | (simp; done) | (simp; omega)) (hT) rfl (by first | exact .inl rfl | exact .inr rfl) rfl ?_
      simp [go_sem]
      repeat (refine And.intro (by first | omega | (intros; omega) | (intros; exact And.intro (by assumption) (by omega)) | grind) ?_)
      apply k4_; clear k4_
      refine Do.seqk fun _ k5_ => ?_
      refine Do.region [1,5,7,8,9,11,12,13,14] true ?_
      simp [go_sem]
      repeat (refine And.intro (by first | omega | (intros; omega) | (intros; exact And.intro (by assumption) (by omega)) | grind) ?_)
      refine DoL.sealS true 406 405 rfl ?_
      simp [go_sem]
      refine DoL.call true 407 rfl rfl rfl rfl (by first | exact trivial | omega | (simp; done) | (simp; omega)) (hA) rfl (by first | exact .inl rfl | exact .inr rfl) rfl ?_
      simp [go_sem]
      apply k5_; clear k5_
      refine Do.seqk fun _ k6_ => ?_
      refine Do.seqk fun _ k7_ => ?_
      refine Do.region [1,5,7,8,9,11,12,13,14,42] true ?_
      simp [go_sem]
      apply k7_; clear k7_
      refine Do.cond [1,5,7,8,9,11,12,13,14] rfl (fun h5 => ?_) (fun h5 => ?_) <;> simp [go_sem] at h5 ⊢
      · refine Do.seqk fun _ k8_ => ?_
        refine Do.region [10] true ?_
        simp [go_sem]
        repeat (refine And.intro (by first | omega | (intros; omega) | (intros; exact And.intro (by assumption) (by omega)) | grind) ?_)
        refine DoL.call true 606 rfl rfl rfl rfl (by first | exact trivial | omega | (simp; done) | (simp; omega)) (hF) rfl (by first | exact .inl rfl | exact .inr rfl) rfl ?_
        simp [go_sem]
        refine DoL.callg true 608 rfl rfl rfl rfl rfl (by simp [go_sem] <;> omega) (fun _ => awake18_does) rfl (by first | exact .inl rfl | exact .inr rfl) rfl ?_
        simp [go_sem]
        apply k8_; clear k8_
        refine Do.ret ?_
        simp [endQ, rets, ret1, go_sem]
        repeat (refine And.intro (by first | omega | (intros; omega) | (intros; exact And.intro (by assumption) (by omega)) | grind) ?_)
        exact TLe.refl _
      · exact absurd h5 he
end Go.Proofs.YthpkhmbjmnhmoaaGreatDoor
/- The law ProductDots. No condition. -/
namespace Go.Proofs.YthpkhmbjmnhmoaaGreatDoor
set_option linter.unusedVariables false
set_option linter.unusedSimpArgs false
set_option maxHeartbeats 4000000
set_option maxRecDepth 10000
theorem ProductDots_does {f p r : Int} {xs ys : List Fla} {z : Fla} (hxs : ∀ x ∈ xs, Ws x.m ∧ I64 x.e) (hys : ∀ x ∈ ys, Ws x.m ∧ I64 x.e) (hz : Ws z.m) (ez : I64 z.e) : Does Tryz.prog Gv 5 [Fm f p, .c (.i .i64 r), Rows xs, Rows ys, Fl z.k z.n z.e z.m] (.v (.c (.b true))) := by
  have hSz : Does Tryz.prog Gv 10 [.s false [z.cs]] (.v (.c (.b (shortP [z])))) := Short15_does (l := [z]) (by simp)
  by_cases d1 : (12 : Int) < xs.length
  ·
    refine Does.of (nt := 109) Tryz.func5 rfl rfl rfl (by simp) ?_
    simp only [argTm, PV.ext, Ce.ext]
    refine Do.seqk fun _ k1_ => ?_
    refine Do.region [1,2,3,5,9] true ?_
    simp [go_sem, d1]
    apply k1_; clear k1_
    refine Do.seqk fun _ k2_ => ?_
    refine Do.seqk fun _ k3_ => ?_
    refine Do.region [1,2,3,5,9,41] true ?_
    simp [go_sem, d1]
    repeat (refine And.intro (by first | omega | (intros; omega) | (intros; exact And.intro (by assumption) (by omega)) | grind) ?_)
    refine DoL.gOff true 111 rfl rfl (.v (.c (.b false))) rfl ?_
    simp [go_sem, d1]
    repeat (refine And.intro (by first | omega | (intros; omega) | (intros; exact And.intro (by assumption) (by omega)) | grind) ?_)
    refine DoL.gOff true 116 rfl rfl (.v (.c (.b false))) rfl ?_
    simp [go_sem, d1]
    repeat (refine And.intro (by first | omega | (intros; omega) | (intros; exact And.intro (by assumption) (by omega)) | grind) ?_)
    refine DoL.gOff true 121 rfl rfl (.v (.s true [z.cs])) rfl ?_
    simp [go_sem]
    refine DoL.gOff true 122 rfl rfl (.v (.c (.b false))) rfl ?_
    simp [go_sem, d1]
    repeat (refine And.intro (by first | omega | (intros; omega) | (intros; exact And.intro (by assumption) (by omega)) | grind) ?_)
    apply k3_; clear k3_
    refine Do.cond [1,2,3,5,9] rfl (fun h => ?_) (fun h => ?_) <;> simp [go_sem, d1] at h ⊢
    refine Do.seqk fun _ k4_ => ?_
    refine Do.region [10] true ?_
    simp [go_sem, d1]
    refine DoL.call true 201 rfl rfl rfl rfl (by first | exact trivial | omega | (simp; done) | (simp; omega)) (awake18_does) rfl (by first | exact .inl rfl | exact .inr rfl) rfl ?_
    simp [go_sem, d1]
    apply k4_; clear k4_
    refine Do.ret ?_
    simp [endQ, rets, ret1, go_sem, d1]
    repeat (refine And.intro (by first | omega | (intros; omega) | (intros; exact And.intro (by assumption) (by omega)) | grind) ?_)
    exact TLe.refl _
  · by_cases d2 : (12 : Int) < ys.length
    ·
      refine Does.of (nt := 109) Tryz.func5 rfl rfl rfl (by simp) ?_
      simp only [argTm, PV.ext, Ce.ext]
      refine Do.seqk fun _ k1_ => ?_
      refine Do.region [1,2,3,5,9] true ?_
      simp [go_sem, d1, d2]
      apply k1_; clear k1_
      refine Do.seqk fun _ k2_ => ?_
      refine Do.seqk fun _ k3_ => ?_
      refine Do.region [1,2,3,5,9,41] true ?_
      simp [go_sem, d1, d2]
      repeat (refine And.intro (by first | omega | (intros; omega) | (intros; exact And.intro (by assumption) (by omega)) | grind) ?_)
      refine DoL.gOff true 111 rfl rfl (.v (.c (.b false))) rfl ?_
      simp [go_sem, d1, d2]
      repeat (refine And.intro (by first | omega | (intros; omega) | (intros; exact And.intro (by assumption) (by omega)) | grind) ?_)
      refine DoL.gOff true 116 rfl rfl (.v (.c (.b false))) rfl ?_
      simp [go_sem, d1, d2]
      repeat (refine And.intro (by first | omega | (intros; omega) | (intros; exact And.intro (by assumption) (by omega)) | grind) ?_)
      refine DoL.gOff true 121 rfl rfl (.v (.s true [z.cs])) rfl ?_
      simp [go_sem]
      refine DoL.gOff true 122 rfl rfl (.v (.c (.b false))) rfl ?_
      simp [go_sem, d1, d2]
      repeat (refine And.intro (by first | omega | (intros; omega) | (intros; exact And.intro (by assumption) (by omega)) | grind) ?_)
      apply k3_; clear k3_
      refine Do.cond [1,2,3,5,9] rfl (fun h => ?_) (fun h => ?_) <;> simp [go_sem, d1, d2] at h ⊢
      refine Do.seqk fun _ k4_ => ?_
      refine Do.region [10] true ?_
      simp [go_sem, d1, d2]
      refine DoL.call true 201 rfl rfl rfl rfl (by first | exact trivial | omega | (simp; done) | (simp; omega)) (awake18_does) rfl (by first | exact .inl rfl | exact .inr rfl) rfl ?_
      simp [go_sem, d1, d2]
      apply k4_; clear k4_
      refine Do.ret ?_
      simp [endQ, rets, ret1, go_sem, d1, d2]
      repeat (refine And.intro (by first | omega | (intros; omega) | (intros; exact And.intro (by assumption) (by omega)) | grind) ?_)
      exact TLe.refl _
    · have hSx : Does Tryz.prog Gv 10 [Rows xs] (.v (.c (.b (shortP xs)))) := Short15_does (l := xs) (by omega)
      have hSy : Does Tryz.prog Gv 10 [Rows ys] (.v (.c (.b (shortP ys)))) := Short15_does (l := ys) (by omega)
      cases sx : shortP xs with
      | false =>
        rw [sx] at hSx
        refine Does.of (nt := 109) Tryz.func5 rfl rfl rfl (by simp) ?_
        simp only [argTm, PV.ext, Ce.ext]
        refine Do.seqk fun _ k1_ => ?_
        refine Do.region [1,2,3,5,9] true ?_
        simp [go_sem, d1, d2]
        apply k1_; clear k1_
        refine Do.seqk fun _ k2_ => ?_
        refine Do.seqk fun _ k3_ => ?_
        refine Do.region [1,2,3,5,9,41] true ?_
        simp [go_sem, d1, d2]
        repeat (refine And.intro (by first | omega | (intros; omega) | (intros; exact And.intro (by assumption) (by omega)) | grind) ?_)
        refine DoL.callg true 111 rfl rfl rfl rfl rfl (by simp [go_sem] <;> omega) (fun _ => hSx) rfl (by first | exact .inl rfl | exact .inr rfl) rfl ?_
        simp [go_sem, d1, d2]
        repeat (refine And.intro (by first | omega | (intros; omega) | (intros; exact And.intro (by assumption) (by omega)) | grind) ?_)
        refine DoL.gOff true 116 rfl rfl (.v (.c (.b false))) rfl ?_
        simp [go_sem, d1, d2]
        repeat (refine And.intro (by first | omega | (intros; omega) | (intros; exact And.intro (by assumption) (by omega)) | grind) ?_)
        refine DoL.gOff true 121 rfl rfl (.v (.s true [z.cs])) rfl ?_
        simp [go_sem]
        refine DoL.gOff true 122 rfl rfl (.v (.c (.b false))) rfl ?_
        simp [go_sem, d1, d2]
        repeat (refine And.intro (by first | omega | (intros; omega) | (intros; exact And.intro (by assumption) (by omega)) | grind) ?_)
        apply k3_; clear k3_
        refine Do.cond [1,2,3,5,9] rfl (fun h => ?_) (fun h => ?_) <;> simp [go_sem, d1, d2] at h ⊢
        refine Do.seqk fun _ k4_ => ?_
        refine Do.region [10] true ?_
        simp [go_sem, d1, d2]
        refine DoL.call true 201 rfl rfl rfl rfl (by first | exact trivial | omega | (simp; done) | (simp; omega)) (awake18_does) rfl (by first | exact .inl rfl | exact .inr rfl) rfl ?_
        simp [go_sem, d1, d2]
        apply k4_; clear k4_
        refine Do.ret ?_
        simp [endQ, rets, ret1, go_sem, d1, d2]
        repeat (refine And.intro (by first | omega | (intros; omega) | (intros; exact And.intro (by assumption) (by omega)) | grind) ?_)
        exact TLe.refl _
      | true =>
        rw [sx] at hSx
        cases sy : shortP ys with
        | false =>
          rw [sy] at hSy
          refine Does.of (nt := 109) Tryz.func5 rfl rfl rfl (by simp) ?_
          simp only [argTm, PV.ext, Ce.ext]
          refine Do.seqk fun _ k1_ => ?_
          refine Do.region [1,2,3,5,9] true ?_
          simp [go_sem, d1, d2]
          apply k1_; clear k1_
          refine Do.seqk fun _ k2_ => ?_
          refine Do.seqk fun _ k3_ => ?_
          refine Do.region [1,2,3,5,9,41] true ?_
          simp [go_sem, d1, d2]
          repeat (refine And.intro (by first | omega | (intros; omega) | (intros; exact And.intro (by assumption) (by omega)) | grind) ?_)
          refine DoL.callg true 111 rfl rfl rfl rfl rfl (by simp [go_sem] <;> omega) (fun _ => hSx) rfl (by first | exact .inl rfl | exact .inr rfl) rfl ?_
          simp [go_sem, d1, d2]
          repeat (refine And.intro (by first | omega | (intros; omega) | (intros; exact And.intro (by assumption) (by omega)) | grind) ?_)
          refine DoL.callg true 116 rfl rfl rfl rfl rfl (by simp [go_sem] <;> omega) (fun _ => hSy) rfl (by first | exact .inl rfl | exact .inr rfl) rfl ?_
          simp [go_sem, d1, d2]
          repeat (refine And.intro (by first | omega | (intros; omega) | (intros; exact And.intro (by assumption) (by omega)) | grind) ?_)
          refine DoL.gOff true 121 rfl rfl (.v (.s true [z.cs])) rfl ?_
          simp [go_sem]
          refine DoL.gOff true 122 rfl rfl (.v (.c (.b false))) rfl ?_
          simp [go_sem, d1, d2]
          repeat (refine And.intro (by first | omega | (intros; omega) | (intros; exact And.intro (by assumption) (by omega)) | grind) ?_)
          apply k3_; clear k3_
          refine Do.cond [1,2,3,5,9] rfl (fun h => ?_) (fun h => ?_) <;> simp [go_sem, d1, d2] at h ⊢
          refine Do.seqk fun _ k4_ => ?_
          refine Do.region [10] true ?_
          simp [go_sem, d1, d2]
          refine DoL.call true 201 rfl rfl rfl rfl (by first | exact trivial | omega | (simp; done) | (simp; omega)) (awake18_does) rfl (by first | exact .inl rfl | exact .inr rfl) rfl ?_
          simp [go_sem, d1, d2]
          apply k4_; clear k4_
          refine Do.ret ?_
          simp [endQ, rets, ret1, go_sem, d1, d2]
          repeat (refine And.intro (by first | omega | (intros; omega) | (intros; exact And.intro (by assumption) (by omega)) | grind) ?_)
          exact TLe.refl _
        | true =>
          rw [sy] at hSy
          cases hs : shortP [z] with
          | false =>
            rw [hs] at hSz
            refine Does.of (nt := 109) Tryz.func5 rfl rfl rfl (by simp) ?_
            simp only [argTm, PV.ext, Ce.ext]
            refine Do.seqk fun _ k1_ => ?_
            refine Do.region [1,2,3,5,9] true ?_
            simp [go_sem, d1, d2]
            apply k1_; clear k1_
            refine Do.seqk fun _ k2_ => ?_
            refine Do.seqk fun _ k3_ => ?_
            refine Do.region [1,2,3,5,9,41] true ?_
            simp [go_sem, d1, d2]
            repeat (refine And.intro (by first | omega | (intros; omega) | (intros; exact And.intro (by assumption) (by omega)) | grind) ?_)
            refine DoL.callg true 111 rfl rfl rfl rfl rfl (by simp [go_sem] <;> omega) (fun _ => hSx) rfl (by first | exact .inl rfl | exact .inr rfl) rfl ?_
            simp [go_sem, d1, d2]
            repeat (refine And.intro (by first | omega | (intros; omega) | (intros; exact And.intro (by assumption) (by omega)) | grind) ?_)
            refine DoL.callg true 116 rfl rfl rfl rfl rfl (by simp [go_sem] <;> omega) (fun _ => hSy) rfl (by first | exact .inl rfl | exact .inr rfl) rfl ?_
            simp [go_sem, d1, d2]
            repeat (refine And.intro (by first | omega | (intros; omega) | (intros; exact And.intro (by assumption) (by omega)) | grind) ?_)
            refine DoL.gOn true 120 rfl rfl [37] (by simp [go_sem]) ?_
            simp [go_sem]
            refine DoL.sealS true 121 120 rfl ?_
            simp [go_sem]
            refine DoL.callg true 122 rfl rfl rfl rfl rfl (by simp [go_sem] <;> omega) (fun _ => hSz) rfl (by first | exact .inl rfl | exact .inr rfl) rfl ?_
            simp [go_sem, d1, d2]
            repeat (refine And.intro (by first | omega | (intros; omega) | (intros; exact And.intro (by assumption) (by omega)) | grind) ?_)
            apply k3_; clear k3_
            refine Do.cond [1,2,3,5,9] rfl (fun h => ?_) (fun h => ?_) <;> simp [go_sem, d1, d2] at h ⊢
            refine Do.seqk fun _ k4_ => ?_
            refine Do.region [10] true ?_
            simp [go_sem, d1, d2]
            refine DoL.call true 201 rfl rfl rfl rfl (by first | exact trivial | omega | (simp; done) | (simp; omega)) (awake18_does) rfl (by first | exact .inl rfl | exact .inr rfl) rfl ?_
            simp [go_sem, d1, d2]
            apply k4_; clear k4_
            refine Do.ret ?_
            simp [endQ, rets, ret1, go_sem, d1, d2]
            repeat (refine And.intro (by first | omega | (intros; omega) | (intros; exact And.intro (by assumption) (by omega)) | grind) ?_)
            exact TLe.refl _
          | true =>
            rw [hs] at hSz
            have lx : ∀ x ∈ xs, x.m.length ≤ 40 := by simpa [shortP] using sx
            have ly : ∀ x ∈ ys, x.m.length ≤ 40 := by simpa [shortP] using sy
            have lz : z.m.length ≤ 40 := by simpa [shortP] using hs
            have ox : ∀ x ∈ xs, x.Ok := fun x hx => ⟨by have := lx x hx; simp [Sh]; omega, (hxs x hx).1, (hxs x hx).2⟩
            have oy : ∀ x ∈ ys, x.Ok := fun x hx => ⟨by have := ly x hx; simp [Sh]; omega, (hys x hx).1, (hys x hx).2⟩
            have oz : z.Ok := ⟨by simp [Sh]; omega, hz, ez⟩
            have ho : ∀ u ∈ xs ++ ys ++ [z], u.Ok := by
              intro u hu
              simp only [List.mem_append, List.mem_singleton] at hu
              rcases hu with (hu | hu) | rfl
              · exact ox u hu
              · exact oy u hu
              · exact oz
            have hT := PDot_does (f := f) (p := p) (r := r) (xs := xs) (ys := ys) (z := z) (by omega) (by omega) ox oy oz
            have hA := @KArgs_does Gv f p r (xs ++ ys ++ [z]) (by simp; omega) ho
            rw [show Rows (xs ++ ys ++ [z]) = .s false (xs.map Fla.cs ++ (ys.map Fla.cs ++ [z.cs])) by simp [Rows]] at hA
            obtain ⟨hfx, hfn⟩ := @dotA_fine f p r xs ys z
            have hnl : anyLarge (xs ++ ys ++ [z]) = false := by
              rw [anyLarge, List.any_eq_false]
              intro u hu
              simp only [List.mem_append, List.mem_singleton] at hu
              have : u.m.length ≤ 40 := by
                rcases hu with (hu | hu) | rfl
                · exact lx u hu
                · exact ly u hu
                · exact lz
              simp; omega
            by_cases hle : xs.length = ys.length
            · have hE : dotE f p r xs ys z = argsE f p r false (xs ++ ys ++ [z]) := by
                unfold dotE
                rw [show ((xs.length : Int) != ys.length || decide ((1000 : Int) < xs.length)) = false by simp; omega]
              have hle2 : ¬ ((xs.length : Int) ≠ ys.length) := by omega
              by_cases he : argsE f p r false (xs ++ ys ++ [z]) = 0
              · obtain ⟨⟨h1, h2, h3, h4, h5, h6, h7, h8⟩, hd⟩ := dot_ref (hE.trans he) ho
                have hD := @RDot_does Gv f p r h1 h2 h3 xs ys z h4 (by omega) h6 h7 h8
                rw [hd] at hT hfx hfn
                rw [he] at hA
                generalize dotR f p r ((xs.map fun x => rcanon x.flt).zip (ys.map fun x => rcanon x.flt)) (rcanon z.flt) = w at *
                have hF := @Fits_same Gv w.1 w.2 hfn hfx
                have hT : Does Tryz.prog Gv 20 [Fm f p, .c (.i .i64 r), Rows xs, Rows ys, Fl z.k z.n z.e z.m] (.t [w.1.pv, .c (.i .i64 w.2), .c (.i .i64 0)]) := hT
                refine Does.of (nt := 109) Tryz.func5 rfl rfl rfl (by simp) ?_
                simp only [argTm, PV.ext, Ce.ext]
                refine Do.seqk fun _ k1_ => ?_
                refine Do.region [1,2,3,5,9] true ?_
                simp [go_sem, d1, d2]
                apply k1_; clear k1_
                refine Do.seqk fun _ k2_ => ?_
                refine Do.seqk fun _ k3_ => ?_
                refine Do.region [1,2,3,5,9,41] true ?_
                simp [go_sem, d1, d2]
                repeat (refine And.intro (by first | omega | (intros; omega) | (intros; exact And.intro (by assumption) (by omega)) | grind) ?_)
                refine DoL.callg true 111 rfl rfl rfl rfl rfl (by simp [go_sem] <;> omega) (fun _ => hSx) rfl (by first | exact .inl rfl | exact .inr rfl) rfl ?_
                simp [go_sem, d1, d2]
                repeat (refine And.intro (by first | omega | (intros; omega) | (intros; exact And.intro (by assumption) (by omega)) | grind) ?_)
                refine DoL.callg true 116 rfl rfl rfl rfl rfl (by simp [go_sem] <;> omega) (fun _ => hSy) rfl (by first | exact .inl rfl | exact .inr rfl) rfl ?_
                simp [go_sem, d1, d2]
                repeat (refine And.intro (by first | omega | (intros; omega) | (intros; exact And.intro (by assumption) (by omega)) | grind) ?_)
                refine DoL.gOn true 120 rfl rfl [37] (by simp [go_sem]) ?_
                simp [go_sem]
                refine DoL.sealS true 121 120 rfl ?_
                simp [go_sem]
                refine DoL.callg true 122 rfl rfl rfl rfl rfl (by simp [go_sem] <;> omega) (fun _ => hSz) rfl (by first | exact .inl rfl | exact .inr rfl) rfl ?_
                simp [go_sem, d1, d2]
                repeat (refine And.intro (by first | omega | (intros; omega) | (intros; exact And.intro (by assumption) (by omega)) | grind) ?_)
                apply k3_; clear k3_
                refine Do.cond [1,2,3,5,9] rfl (fun h => ?_) (fun h => ?_) <;> simp [go_sem, d1, d2] at h ⊢
                refine Do.skip ?_
                simp [go_sem]
                apply k2_; clear k2_
                refine Do.seqk fun _ k4_ => ?_
                refine Do.region [1,2,3,5,9,11,12,13] true ?_
                simp [go_sem, d1, d2]
                repeat (refine And.intro (by first | omega | (intros; omega) | (intros; exact And.intro (by assumption) (by omega)) | grind) ?_)
                refine DoL.call true 306 rfl rfl rfl rfl (by first | exact trivial | omega | (simp; done) | (simp; omega)) (hT) rfl (by first | exact .inl rfl | exact .inr rfl) rfl ?_
                simp [go_sem, d1, d2]
                repeat (refine And.intro (by first | omega | (intros; omega) | (intros; exact And.intro (by assumption) (by omega)) | grind) ?_)
                apply k4_; clear k4_
                refine Do.seqk fun _ k5_ => ?_
                refine Do.region [1,2,3,5,9,11,12,13,14] true ?_
                simp [go_sem, d1, d2]
                apply k5_; clear k5_
                refine Do.seqk fun _ k6_ => ?_
                refine Do.own 14 900 4 rfl rfl (by decide) ?_
                simp [go_sem]
                refine Do.region [1,2,3,5,9,11,12,13,14] true ?_
                simp [go_sem, d1, d2]
                repeat (refine And.intro (by first | omega | (intros; omega) | (intros; exact And.intro (by assumption) (by omega)) | grind) ?_)
                apply k6_; clear k6_
                refine Do.seqk fun _ k7_ => ?_
                refine Do.region [1,2,3,5,9,11,12,13,14] true ?_
                simp [go_sem, d1, d2]
                repeat (refine And.intro (by first | omega | (intros; omega) | (intros; exact And.intro (by assumption) (by omega)) | grind) ?_)
                apply k7_; clear k7_
                refine Do.seqk fun _ k8_ => ?_
                refine Do.region [1,2,3,5,9,11,12,13,14] true ?_
                simp [go_sem, d1, d2]
                repeat (refine And.intro (by first | omega | (intros; omega) | (intros; exact And.intro (by assumption) (by omega)) | grind) ?_)
                apply k8_; clear k8_
                refine Do.seqk fun _ k9_ => ?_
                refine Do.region [1,2,3,5,9,11,12,13,15] true ?_
                simp [go_sem, d1, d2]
                repeat (refine And.intro (by first | omega | (intros; omega) | (intros; exact And.intro (by assumption) (by omega)) | grind) ?_)
                refine DoL.sealS true 803 900 rfl ?_
                simp [go_sem]
                refine DoL.call true 804 rfl rfl rfl rfl (by first | exact trivial | omega | (simp; done) | (simp; omega)) (hA) rfl (by first | exact .inl rfl | exact .inr rfl) rfl ?_
                simp [go_sem, d1, d2]
                apply k9_; clear k9_
                refine Do.seqk fun _ k10_ => ?_
                refine Do.seqk fun _ k11_ => ?_
                refine Do.region [1,2,3,5,9,11,12,13,15,75] true ?_
                simp [go_sem, d1, d2]
                repeat (refine And.intro (by first | omega | (intros; omega) | (intros; exact And.intro (by assumption) (by omega)) | grind) ?_)
                apply k11_; clear k11_
                refine Do.cond [1,2,3,5,9,11,12,13,15] rfl (fun h3 => ?_) (fun h3 => ?_) <;> simp [go_sem, d1, d2] at h3 ⊢
                · omega
                · refine Do.skip ?_
                  simp [go_sem]
                  apply k10_; clear k10_
                  refine Do.seqk fun _ k12_ => ?_
                  refine Do.seqk fun _ k13_ => ?_
                  refine Do.region [1,2,3,5,9,11,12,13,15,77] true ?_
                  simp [go_sem, d1, d2]
                  apply k13_; clear k13_
                  refine Do.cond [1,2,3,5,9,11,12,13,15] rfl (fun h4 => ?_) (fun h4 => ?_) <;> simp [go_sem, d1, d2] at h4 ⊢
                  refine Do.skip ?_
                  simp [go_sem]
                  apply k12_; clear k12_
                  refine Do.seqk fun _ k14_ => ?_
                  refine Do.draw [11,12,13,16,17] true (by kernel_rfl) ?_
                  simp [go_sem, d1, d2]
                  repeat (refine And.intro (by first | omega | (intros; omega) | (intros; exact And.intro (by assumption) (by omega)) | kernel_rfl | grind) ?_)
                  refine DoLD.call true 1302 rfl rfl rfl rfl (by first | exact trivial | omega | (simp; done) | (simp; omega)) (Fmt_does) rfl (by first | exact .inl rfl | exact .inr rfl) rfl ?_
                  simp [go_sem, d1, d2]
                  refine DoLD.call true 1305 rfl rfl rfl rfl (by first | exact trivial | omega | (simp; done) | (simp; omega)) (Theirs_does (by omega)) rfl (by first | exact .inl rfl | exact .inr rfl) rfl ?_
                  simp [go_sem, d1, d2]
                  refine DoLD.call true 1307 rfl rfl rfl rfl (by first | exact trivial | omega | (simp; done) | (simp; omega)) (Theirs_does (by omega)) rfl (by first | exact .inl rfl | exact .inr rfl) rfl ?_
                  simp [go_sem, d1, d2]
                  repeat (refine And.intro (by first | omega | (intros; omega) | (intros; exact And.intro (by assumption) (by omega)) | kernel_rfl | grind) ?_)
                  refine DoLD.call true 1309 rfl rfl rfl rfl (by first | exact trivial | omega | (simp; done) | (simp; omega)) (Their_does) rfl (by first | exact .inl rfl | exact .inr rfl) rfl ?_
                  simp [go_sem, d1, d2]
                  refine DoLD.call true 1310 rfl rfl rfl rfl (by first | exact trivial | omega | (simp; done) | (simp; omega)) (hD) rfl (by first | exact .inl rfl | exact .inr rfl) rfl ?_
                  simp [go_sem, d1, d2]
                  repeat (refine And.intro (by first | omega | (intros; omega) | (intros; exact And.intro (by assumption) (by omega)) | kernel_rfl | grind) ?_)
                  try (refine And.intro (by kernel_rfl) ?_)
                  apply k14_; clear k14_
                  refine Do.seqk fun _ k15_ => ?_
                  refine Do.region [10] true ?_
                  simp [go_sem, d1, d2]
                  repeat (refine And.intro (by first | omega | (intros; omega) | (intros; exact And.intro (by assumption) (by omega)) | grind) ?_)
                  refine DoL.call true 1406 rfl rfl rfl rfl (by first | exact trivial | omega | (simp; done) | (simp; omega)) (hF) rfl (by first | exact .inl rfl | exact .inr rfl) rfl ?_
                  simp [go_sem, d1, d2]
                  refine DoL.callg true 1408 rfl rfl rfl rfl rfl (by simp [go_sem] <;> omega) (fun _ => awake18_does) rfl (by first | exact .inl rfl | exact .inr rfl) rfl ?_
                  simp [go_sem, d1, d2]
                  apply k15_; clear k15_
                  refine Do.ret ?_
                  simp [endQ, rets, ret1, go_sem, d1, d2]
                  repeat (refine And.intro (by first | omega | (intros; omega) | (intros; exact And.intro (by assumption) (by omega)) | grind) ?_)
                  exact TLe.refl _
              · have hF := @Fits_none 0 0 false [] 0 (argsE f p r false (xs ++ ys ++ [z])) ⟨rfl, rfl, rfl, rfl⟩ he (argsE f p r false (xs ++ ys ++ [z]))
                rw [dotA, hE, if_neg he] at hT
                generalize argsE f p r false (xs ++ ys ++ [z]) = ae at *
                have hT : Does Tryz.prog Gv 20 [Fm f p, .c (.i .i64 r), Rows xs, Rows ys, Fl z.k z.n z.e z.m] (.t [Fl 0 false 0 (nat 0), .c (.i .i64 0), .c (.i .i64 ae)]) := hT
                rw [nat_zero] at hT
                refine Does.of (nt := 109) Tryz.func5 rfl rfl rfl (by simp) ?_
                simp only [argTm, PV.ext, Ce.ext]
                refine Do.seqk fun _ k1_ => ?_
                refine Do.region [1,2,3,5,9] true ?_
                simp [go_sem, d1, d2]
                apply k1_; clear k1_
                refine Do.seqk fun _ k2_ => ?_
                refine Do.seqk fun _ k3_ => ?_
                refine Do.region [1,2,3,5,9,41] true ?_
                simp [go_sem, d1, d2]
                repeat (refine And.intro (by first | omega | (intros; omega) | (intros; exact And.intro (by assumption) (by omega)) | grind) ?_)
                refine DoL.callg true 111 rfl rfl rfl rfl rfl (by simp [go_sem] <;> omega) (fun _ => hSx) rfl (by first | exact .inl rfl | exact .inr rfl) rfl ?_
                simp [go_sem, d1, d2]
                repeat (refine And.intro (by first | omega | (intros; omega) | (intros; exact And.intro (by assumption) (by omega)) | grind) ?_)
                refine DoL.callg true 116 rfl rfl rfl rfl rfl (by simp [go_sem] <;> omega) (fun _ => hSy) rfl (by first | exact .inl rfl | exact .inr rfl) rfl ?_
                simp [go_sem, d1, d2]
                repeat (refine And.intro (by first | omega | (intros; omega) | (intros; exact And.intro (by assumption) (by omega)) | grind) ?_)
                refine DoL.gOn true 120 rfl rfl [37] (by simp [go_sem]) ?_
                simp [go_sem]
                refine DoL.sealS true 121 120 rfl ?_
                simp [go_sem]
                refine DoL.callg true 122 rfl rfl rfl rfl rfl (by simp [go_sem] <;> omega) (fun _ => hSz) rfl (by first | exact .inl rfl | exact .inr rfl) rfl ?_
                simp [go_sem, d1, d2]
                repeat (refine And.intro (by first | omega | (intros; omega) | (intros; exact And.intro (by assumption) (by omega)) | grind) ?_)
                apply k3_; clear k3_
                refine Do.cond [1,2,3,5,9] rfl (fun h => ?_) (fun h => ?_) <;> simp [go_sem, d1, d2] at h ⊢
                refine Do.skip ?_
                simp [go_sem]
                apply k2_; clear k2_
                refine Do.seqk fun _ k4_ => ?_
                refine Do.region [1,2,3,5,9,11,12,13] true ?_
                simp [go_sem, d1, d2]
                repeat (refine And.intro (by first | omega | (intros; omega) | (intros; exact And.intro (by assumption) (by omega)) | grind) ?_)
                refine DoL.call true 306 rfl rfl rfl rfl (by first | exact trivial | omega | (simp; done) | (simp; omega)) (hT) rfl (by first | exact .inl rfl | exact .inr rfl) rfl ?_
                simp [go_sem, d1, d2]
                repeat (refine And.intro (by first | omega | (intros; omega) | (intros; exact And.intro (by assumption) (by omega)) | grind) ?_)
                apply k4_; clear k4_
                refine Do.seqk fun _ k5_ => ?_
                refine Do.region [1,2,3,5,9,11,12,13,14] true ?_
                simp [go_sem, d1, d2]
                apply k5_; clear k5_
                refine Do.seqk fun _ k6_ => ?_
                refine Do.own 14 900 4 rfl rfl (by decide) ?_
                simp [go_sem]
                refine Do.region [1,2,3,5,9,11,12,13,14] true ?_
                simp [go_sem, d1, d2]
                repeat (refine And.intro (by first | omega | (intros; omega) | (intros; exact And.intro (by assumption) (by omega)) | grind) ?_)
                apply k6_; clear k6_
                refine Do.seqk fun _ k7_ => ?_
                refine Do.region [1,2,3,5,9,11,12,13,14] true ?_
                simp [go_sem, d1, d2]
                repeat (refine And.intro (by first | omega | (intros; omega) | (intros; exact And.intro (by assumption) (by omega)) | grind) ?_)
                apply k7_; clear k7_
                refine Do.seqk fun _ k8_ => ?_
                refine Do.region [1,2,3,5,9,11,12,13,14] true ?_
                simp [go_sem, d1, d2]
                repeat (refine And.intro (by first | omega | (intros; omega) | (intros; exact And.intro (by assumption) (by omega)) | grind) ?_)
                apply k8_; clear k8_
                refine Do.seqk fun _ k9_ => ?_
                refine Do.region [1,2,3,5,9,11,12,13,15] true ?_
                simp [go_sem, d1, d2]
                repeat (refine And.intro (by first | omega | (intros; omega) | (intros; exact And.intro (by assumption) (by omega)) | grind) ?_)
                refine DoL.sealS true 803 900 rfl ?_
                simp [go_sem]
                refine DoL.call true 804 rfl rfl rfl rfl (by first | exact trivial | omega | (simp; done) | (simp; omega)) (hA) rfl (by first | exact .inl rfl | exact .inr rfl) rfl ?_
                simp [go_sem, d1, d2]
                apply k9_; clear k9_
                refine Do.seqk fun _ k10_ => ?_
                refine Do.seqk fun _ k11_ => ?_
                refine Do.region [1,2,3,5,9,11,12,13,15,75] true ?_
                simp [go_sem, d1, d2]
                repeat (refine And.intro (by first | omega | (intros; omega) | (intros; exact And.intro (by assumption) (by omega)) | grind) ?_)
                apply k11_; clear k11_
                refine Do.cond [1,2,3,5,9,11,12,13,15] rfl (fun h3 => ?_) (fun h3 => ?_) <;> simp [go_sem, d1, d2] at h3 ⊢
                · omega
                · refine Do.skip ?_
                  simp [go_sem]
                  apply k10_; clear k10_
                  refine Do.seqk fun _ k12_ => ?_
                  refine Do.seqk fun _ k13_ => ?_
                  refine Do.region [1,2,3,5,9,11,12,13,15,77] true ?_
                  simp [go_sem, d1, d2]
                  apply k13_; clear k13_
                  refine Do.cond [1,2,3,5,9,11,12,13,15] rfl (fun h5 => ?_) (fun h5 => ?_) <;> simp [go_sem, d1, d2] at h5 ⊢
                  · refine Do.seqk fun _ k14_ => ?_
                    refine Do.region [10] true ?_
                    simp [go_sem, d1, d2]
                    repeat (refine And.intro (by first | omega | (intros; omega) | (intros; exact And.intro (by assumption) (by omega)) | grind) ?_)
                    refine DoL.call true 1206 rfl rfl rfl rfl (by first | exact trivial | omega | (simp; done) | (simp; omega)) (hF) rfl (by first | exact .inl rfl | exact .inr rfl) rfl ?_
                    simp [go_sem, d1, d2]
                    refine DoL.callg true 1208 rfl rfl rfl rfl rfl (by simp [go_sem] <;> omega) (fun _ => awake18_does) rfl (by first | exact .inl rfl | exact .inr rfl) rfl ?_
                    simp [go_sem, d1, d2]
                    apply k14_; clear k14_
                    refine Do.ret ?_
                    simp [endQ, rets, ret1, go_sem, d1, d2]
                    repeat (refine And.intro (by first | omega | (intros; omega) | (intros; exact And.intro (by assumption) (by omega)) | grind) ?_)
                    exact TLe.refl _
                  · exact absurd h5 he
            · have hE : dotE f p r xs ys z = 1 := by
                unfold dotE
                rw [show ((xs.length : Int) != ys.length || decide ((1000 : Int) < xs.length)) = true by simp; omega]
                rw [argsE, if_neg (by rw [hnl]; decide), if_pos (by simp)]
              have h2 : argsE f p r false (xs ++ ys ++ [z]) ≠ 2 := by
                rw [argsE, if_neg (by rw [hnl]; decide)]
                split
                · decide
                · split
                  · decide
                  · split <;> decide
              have hF := @Fits_none 0 0 false [] 0 1 ⟨rfl, rfl, rfl, rfl⟩ (by decide) 1
              rw [dotA, hE, if_neg (by decide)] at hT
              generalize argsE f p r false (xs ++ ys ++ [z]) = ae at *
              have hT : Does Tryz.prog Gv 20 [Fm f p, .c (.i .i64 r), Rows xs, Rows ys, Fl z.k z.n z.e z.m] (.t [Fl 0 false 0 (nat 0), .c (.i .i64 0), .c (.i .i64 1)]) := hT
              rw [nat_zero] at hT
              refine Does.of (nt := 109) Tryz.func5 rfl rfl rfl (by simp) ?_
              simp only [argTm, PV.ext, Ce.ext]
              refine Do.seqk fun _ k1_ => ?_
              refine Do.region [1,2,3,5,9] true ?_
              simp [go_sem, d1, d2]
              apply k1_; clear k1_
              refine Do.seqk fun _ k2_ => ?_
              refine Do.seqk fun _ k3_ => ?_
              refine Do.region [1,2,3,5,9,41] true ?_
              simp [go_sem, d1, d2]
              repeat (refine And.intro (by first | omega | (intros; omega) | (intros; exact And.intro (by assumption) (by omega)) | grind) ?_)
              refine DoL.callg true 111 rfl rfl rfl rfl rfl (by simp [go_sem] <;> omega) (fun _ => hSx) rfl (by first | exact .inl rfl | exact .inr rfl) rfl ?_
              simp [go_sem, d1, d2]
              repeat (refine And.intro (by first | omega | (intros; omega) | (intros; exact And.intro (by assumption) (by omega)) | grind) ?_)
              refine DoL.callg true 116 rfl rfl rfl rfl rfl (by simp [go_sem] <;> omega) (fun _ => hSy) rfl (by first | exact .inl rfl | exact .inr rfl) rfl ?_
              simp [go_sem, d1, d2]
              repeat (refine And.intro (by first | omega | (intros; omega) | (intros; exact And.intro (by assumption) (by omega)) | grind) ?_)
              refine DoL.gOn true 120 rfl rfl [37] (by simp [go_sem]) ?_
              simp [go_sem]
              refine DoL.sealS true 121 120 rfl ?_
              simp [go_sem]
              refine DoL.callg true 122 rfl rfl rfl rfl rfl (by simp [go_sem] <;> omega) (fun _ => hSz) rfl (by first | exact .inl rfl | exact .inr rfl) rfl ?_
              simp [go_sem, d1, d2]
              repeat (refine And.intro (by first | omega | (intros; omega) | (intros; exact And.intro (by assumption) (by omega)) | grind) ?_)
              apply k3_; clear k3_
              refine Do.cond [1,2,3,5,9] rfl (fun h => ?_) (fun h => ?_) <;> simp [go_sem, d1, d2] at h ⊢
              refine Do.skip ?_
              simp [go_sem]
              apply k2_; clear k2_
              refine Do.seqk fun _ k4_ => ?_
              refine Do.region [1,2,3,5,9,11,12,13] true ?_
              simp [go_sem, d1, d2]
              repeat (refine And.intro (by first | omega | (intros; omega) | (intros; exact And.intro (by assumption) (by omega)) | grind) ?_)
              refine DoL.call true 306 rfl rfl rfl rfl (by first | exact trivial | omega | (simp; done) | (simp; omega)) (hT) rfl (by first | exact .inl rfl | exact .inr rfl) rfl ?_
              simp [go_sem, d1, d2]
              repeat (refine And.intro (by first | omega | (intros; omega) | (intros; exact And.intro (by assumption) (by omega)) | grind) ?_)
              apply k4_; clear k4_
              refine Do.seqk fun _ k5_ => ?_
              refine Do.region [1,2,3,5,9,11,12,13,14] true ?_
              simp [go_sem, d1, d2]
              apply k5_; clear k5_
              refine Do.seqk fun _ k6_ => ?_
              refine Do.own 14 900 4 rfl rfl (by decide) ?_
              simp [go_sem]
              refine Do.region [1,2,3,5,9,11,12,13,14] true ?_
              simp [go_sem, d1, d2]
              repeat (refine And.intro (by first | omega | (intros; omega) | (intros; exact And.intro (by assumption) (by omega)) | grind) ?_)
              apply k6_; clear k6_
              refine Do.seqk fun _ k7_ => ?_
              refine Do.region [1,2,3,5,9,11,12,13,14] true ?_
              simp [go_sem, d1, d2]
              repeat (refine And.intro (by first | omega | (intros; omega) | (intros; exact And.intro (by assumption) (by omega)) | grind) ?_)
              apply k7_; clear k7_
              refine Do.seqk fun _ k8_ => ?_
              refine Do.region [1,2,3,5,9,11,12,13,14] true ?_
              simp [go_sem, d1, d2]
              repeat (refine And.intro (by first | omega | (intros; omega) | (intros; exact And.intro (by assumption) (by omega)) | grind) ?_)
              apply k8_; clear k8_
              refine Do.seqk fun _ k9_ => ?_
              refine Do.region [1,2,3,5,9,11,12,13,15] true ?_
              simp [go_sem, d1, d2]
              repeat (refine And.intro (by first | omega | (intros; omega) | (intros; exact And.intro (by assumption) (by omega)) | grind) ?_)
              refine DoL.sealS true 803 900 rfl ?_
              simp [go_sem]
              refine DoL.call true 804 rfl rfl rfl rfl (by first | exact trivial | omega | (simp; done) | (simp; omega)) (hA) rfl (by first | exact .inl rfl | exact .inr rfl) rfl ?_
              simp [go_sem, d1, d2]
              apply k9_; clear k9_
              refine Do.seqk fun _ k10_ => ?_
              refine Do.seqk fun _ k11_ => ?_
              refine Do.region [1,2,3,5,9,11,12,13,15,75] true ?_
              simp [go_sem, d1, d2]
              repeat (refine And.intro (by first | omega | (intros; omega) | (intros; exact And.intro (by assumption) (by omega)) | grind) ?_)
              apply k11_; clear k11_
              refine Do.cond [1,2,3,5,9,11,12,13,15] rfl (fun h3 => ?_) (fun h3 => ?_) <;> simp [go_sem, d1, d2] at h3 ⊢
              · refine Do.region [1,2,3,5,9,11,12,13,15] true ?_
                simp [go_sem, d1, d2]
                apply k10_; clear k10_
                refine Do.seqk fun _ k12_ => ?_
                refine Do.seqk fun _ k13_ => ?_
                refine Do.region [1,2,3,5,9,11,12,13,15,77] true ?_
                simp [go_sem, d1, d2]
                apply k13_; clear k13_
                refine Do.cond [1,2,3,5,9,11,12,13,15] rfl (fun h4 => ?_) (fun h4 => ?_) <;> simp [go_sem, d1, d2] at h4 ⊢
                refine Do.seqk fun _ k14_ => ?_
                refine Do.region [10] true ?_
                simp [go_sem, d1, d2]
                repeat (refine And.intro (by first | omega | (intros; omega) | (intros; exact And.intro (by assumption) (by omega)) | grind) ?_)
                refine DoL.call true 1206 rfl rfl rfl rfl (by first | exact trivial | omega | (simp; done) | (simp; omega)) (hF) rfl (by first | exact .inl rfl | exact .inr rfl) rfl ?_
                simp [go_sem, d1, d2]
                refine DoL.callg true 1208 rfl rfl rfl rfl rfl (by simp [go_sem] <;> omega) (fun _ => awake18_does) rfl (by first | exact .inl rfl | exact .inr rfl) rfl ?_
                simp [go_sem, d1, d2]
                apply k14_; clear k14_
                refine Do.ret ?_
                simp [endQ, rets, ret1, go_sem, d1, d2]
                repeat (refine And.intro (by first | omega | (intros; omega) | (intros; exact And.intro (by assumption) (by omega)) | grind) ?_)
                exact TLe.refl _
              · omega
end Go.Proofs.YthpkhmbjmnhmoaaGreatDoor
/- A shift of a signed number to the right. No condition. -/
namespace Go.Proofs.YthpkhmbjmnhmoaaGreatDoor
set_option linter.unusedVariables false
set_option linter.unusedSimpArgs false
section
variable {P : Program} {G : Gl} {nt : Nat} {st : St} {cx : Cx} {a : Act} {W W' : World} {m : Nat → Option Nat} {QE : Exit → St → Prop} {ops l : List Oper} {Q : St → Prop}
theorem DoL.shrI {o : Oper} {x y : Operand} {t t' : TypeId} {u : Int} {b : Nat} (md : Bool) (lab : Nat) (hg : o.guard = none) (hop : o.op = .binOp .shr t x y t') (hx : opv st.tm x = some (.v (.c (.i .i64 u)))) (hy : opv st.tm y = some (.v (.c (.n b)))) (hb : b < 64) (hd : dstOk nt o.dst = true)
    (next : runs P G nt md ops Q lab l ⟨setv o.dst (some (.int .i64 (u / 2 ^ b))) st.tm, st.ob⟩) : DoL P G nt ops (o :: l) st Q := by
  intro cx a W hn ⟨m, hr⟩ Q' hQ
  refine wpList_plain hg fun K hK => ?_
  unfold Oper.wp
  have hxv : a.eval x = .int .i64 u := rt_i (hr.opv hx)
  have hyv : a.eval y = .int .u64 b := rt_n (hr.opv hy)
  have hexec : (execOp a.eval o).run P W = .ok (.value (.int .i64 (u / 2 ^ b))) W := by
    have h1 : (binOp .shr t (.int .i64 u) (.int .u64 b)).run P W = .ok (.int .i64 (u / 2 ^ b)) W := by
      simp [binOp, Op.shift, IntKind.bits, show ¬ (b : Int) < 0 by omega]
    simp [execOp, hop, hxv, hyv, eqGuard, h1]
  rw [hexec]
  exact hK _ _ (DoL.run next cx _ _ hn (Rel.put hr hn hd (x := .int .i64 (u / 2 ^ b)) (show _ = _ from rfl)) Q' hQ)
end
end Go.Proofs.YthpkhmbjmnhmoaaGreatDoor
