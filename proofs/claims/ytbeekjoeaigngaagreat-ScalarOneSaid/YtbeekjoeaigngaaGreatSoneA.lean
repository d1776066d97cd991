/-
  The law: its function printed as a pure function, its contract, the plain law, the statement
-/
import Derived.Test.YtbeekjoeaigngaaGreatScF
import Derived.Test.YtbeekjoeaigngaaGreatRows
set_option linter.unusedVariables false
/-
  GP: the law RatMakes.
-/
namespace Go.FL
open Go Go.Proofs

end Go.FL
/-
  GP: the law RatReckons.
-/
namespace Go.FL
open Go Go.Proofs

end Go.FL
/-
  GP: the law RatOrders.
-/
namespace Go.FL
open Go Go.Proofs

end Go.FL
/-
  GP: the law RatRounds.
-/
namespace Go.FL
open Go Go.Proofs

end Go.FL
/-
  Plain laws, rat 7: RatMakes, RatReckons, RatOrders, RatRounds.
-/
namespace Go.FL
open Go Go.Proofs

def okA (x : RT × Int) : Prop := x.1.2.1.length ≤ 1048576 ∧ x.1.2.2.length ≤ 1048576
end Go.FL
/-
  GP: the law RatBack.
-/
namespace Go.FL
open Go Go.Proofs

end Go.FL
/-
  GP: the law RatResidues.
-/
namespace Go.FL
open Go Go.Proofs

end Go.FL
/-
  Plain laws, rat 8: RatBack, RatResidues.
-/
namespace Go.FL
open Go Go.Proofs

end Go.FL
/-
  GP: the law RatCompares.
-/
namespace Go.FL
open Go Go.Proofs

end Go.FL
/-
  Plain laws, rat 9: RatCompares.
-/
namespace Go.FL
open Go Go.Proofs

theorem le_mk {a c : Int} {b d : Nat} (hb : b ≠ 0) (hd : d ≠ 0) : mkRat a b ≤ mkRat c d ↔ a * d ≤ c * b := by
  rw [Rat.mkRat_eq_div, Rat.mkRat_eq_div]
  have hb' : (0 : Rat) < ((b : Int) : Rat) := by exact_mod_cast Rat.intCast_lt_intCast.2 (show (0 : Int) < b by omega)
  have hd' : (0 : Rat) < ((d : Int) : Rat) := by exact_mod_cast Rat.intCast_lt_intCast.2 (show (0 : Int) < d by omega)
  have e1 : ((a : Rat) / (b : Rat)) * ((b : Int) : Rat) = a := Rat.div_mul_cancel (Rat.ne_of_gt hb')
  have e2 : ((c : Rat) / (d : Rat)) * ((d : Int) : Rat) = c := Rat.div_mul_cancel (Rat.ne_of_gt hd')
  generalize (a : Rat) / (b : Rat) = x at *
  generalize (c : Rat) / (d : Rat) = y at *
  have hbd := Rat.mul_pos hb' hd'
  have key : a * d ≤ c * b ↔ x * (((b : Int) : Rat) * ((d : Int) : Rat)) ≤ y * (((b : Int) : Rat) * ((d : Int) : Rat)) := by
    rw [← Rat.intCast_le_intCast, Rat.intCast_mul, Rat.intCast_mul, ← e1, ← e2]
    have h1 : x * ((b : Int) : Rat) * ((d : Int) : Rat) = x * (((b : Int) : Rat) * ((d : Int) : Rat)) := by grind
    have h2 : y * ((d : Int) : Rat) * ((b : Int) : Rat) = y * (((b : Int) : Rat) * ((d : Int) : Rat)) := by grind
    rw [h1, h2]
  rw [key]
  constructor
  · intro h; exact Rat.mul_le_mul_of_nonneg_right h (Rat.le_of_lt hbd)
  · intro h
    apply Rat.not_lt.1
    intro h2
    exact absurd (Rat.mul_lt_mul_of_pos_right h2 hbd) (Rat.not_lt.2 h)
def absR (p : Rat) : Rat := if p < 0 then -p else p
theorem abs_val {D : Q3} (h : D.2.2 ≠ 0) : absR (valQ D) = mkRat D.2.1 D.2.2 := by
  obtain ⟨b, n, d⟩ := D
  have h0 : (0 : Rat) ≤ mkRat n d := by
    have := (le_mk (a := 0) (c := n) (b := 1) (d := d) (by decide) h).2 (by omega)
    simpa using this
  show absR (mkRat (sg b n) d) = mkRat n d
  unfold absR
  cases b
  · rw [show sg false n = (n : Int) from rfl, if_neg (Rat.not_lt.2 h0)]
  · rw [show sg true n = -(n : Int) from rfl, ← Rat.neg_mkRat]
    generalize mkRat n d = x at *
    split <;> grind
theorem abs_of (p : Rat) : absR p = mkRat p.num.natAbs p.den := by
  have := abs_val (D := q3 p) (den_ne p)
  rwa [valQ_of] at this
theorem val_plain (p : Rat) : valQ (false, p.num.natAbs, p.den) = absR p := (abs_of p).symm
def maxA (p q : Rat) : Rat := if absR p < absR q then absR q else absR p
def within (c p q : Rat) : Prop := absR (p - q) ≤ c * maxA p q
instance (c p q : Rat) : Decidable (within c p q) := inferInstanceAs (Decidable (_ ≤ _))
def tolR (c p q : Rat) : Int := if within c p q then 0 else cmpR p q
theorem cmpN_lt {m n : Nat} : cmpN m n < 0 ↔ m < n := by
  unfold cmpN; split
  · simp [*]
  · split <;> simp [*]
theorem cmpN_le {m n : Nat} : cmpN m n ≤ 0 ↔ m ≤ n := by
  unfold cmpN; split
  · simp; omega
  · split
    · simp; omega
    · constructor
      · intro h; omega
      · intro h; omega
theorem cmpN_gt {m n : Nat} : 0 < cmpN m n ↔ n < m := by
  rw [← Nat.not_le, ← cmpN_le]; omega
theorem abs_lt_iff {p q : Rat} : absR p < absR q ↔ p.num.natAbs * q.den < q.num.natAbs * p.den := by
  rw [← Rat.not_le, abs_of, abs_of, le_mk q.den_nz p.den_nz]
  rw [← Int.natCast_mul, ← Int.natCast_mul]
  omega
theorem apart_q {D T : Q3} (hD : sm 2000 D) (hT : sm 2000 T) (h1 : D.2.2 ≠ 0) (h2 : T.2.2 ≠ 0) {β : Type} (f : Bool → Option β) :
    (Option.bind ((if (qN T).2 = true then (if 0 < ((List.length (qN T).1.1 : Nat) : Int) then (some true) else ((ratCross (qN D).1 (qN T).1).bind fun x16 => ((ratCross (qN T).1 (qN D).1).bind fun x17 => ((nCompare x16 x17).bind fun x18 => (some (decide (0 < x18))))))) else ((ratCross (qN D).1 (qN T).1).bind fun x19 => ((ratCross (qN T).1 (qN D).1).bind fun x20 => ((nCompare x19 x20).bind fun x21 => (some (decide (0 < x21))))))) : Option (Bool)) f) =
      f (decide (¬ mkRat D.2.1 D.2.2 ≤ valQ T)) := by
  have c1 := cross_q (sm_mono hD (by decide : 2000 ≤ 4000)) (sm_mono hT (by decide : 2000 ≤ 4000))
  have c2 := cross_q (sm_mono hT (by decide : 2000 ≤ 4000)) (sm_mono hD (by decide : 2000 ≤ 4000))
  have c3 := nCompare_eq (Nat.le_trans (cross_sm hD hT) (by decide)) (Nat.le_trans (cross_sm hT hD) (by decide))
  rw [c1, Option.bind_some, c2, Option.bind_some, c3, Option.bind_some]
  have e : decide (¬ mkRat D.2.1 D.2.2 ≤ valQ T) = if T.1 = true then (if T.2.1 ≠ 0 then true else decide (0 < cmpN (D.2.1 * T.2.2) (T.2.1 * D.2.2))) else decide (0 < cmpN (D.2.1 * T.2.2) (T.2.1 * D.2.2)) := by
    simp only [le_mk h1 h2]
    obtain ⟨b, n, d⟩ := T
    obtain ⟨b2, n2, d2⟩ := D
    show decide (¬ ((n2 : Int) * d ≤ sg b n * d2)) = if b = true then (if n ≠ 0 then true else decide (0 < cmpN (n2 * d) (n * d2))) else decide (0 < cmpN (n2 * d) (n * d2))
    have hd2 : d2 ≠ 0 := h1
    simp only [cmpN_gt]
    cases b
    · rw [if_neg (by decide), show sg false n = (n : Int) from rfl, ← Int.natCast_mul, ← Int.natCast_mul]
      simp only [decide_eq_decide]; omega
    · rw [if_pos rfl, show sg true n = -(n : Int) from rfl, Int.neg_mul, ← Int.natCast_mul, ← Int.natCast_mul]
      by_cases hn : n = 0
      · subst hn; rw [if_neg (by simp)]
        simp only [decide_eq_decide]; omega
      · rw [if_pos hn]
        have : 0 < n * d2 := Nat.mul_pos (Nat.pos_of_ne_zero hn) (Nat.pos_of_ne_zero hd2)
        simp only [decide_eq_true_eq]; omega
  rw [e]
  show Option.bind (if T.1 = true then (if 0 < ((List.length (digs T.2.1) : Nat) : Int) then some true else some _) else some _) f = _
  by_cases hb : T.1 = true
  · rw [if_pos hb, if_pos hb]
    by_cases hn : T.2.1 ≠ 0
    · rw [if_pos hn, if_pos (digs_pos_iff.2 hn)]; rfl
    · rw [if_neg hn, if_neg (mt digs_pos_iff.1 hn)]; rfl
  · rw [if_neg hb, if_neg hb]; rfl
theorem right3 {c p q : Rat} (hc : fits c) (hp : fits p) (hq : fits q) : (rightR (ofQ c) && (rightR (ofQ p) && rightR (ofQ q))) = true := by rw [ofQ_right hc, ofQ_right hp, ofQ_right hq]; rfl
abbrev difQ (p q : Rat) : Q3 := plusN (q3 p) (!(q3 q).1, (q3 q).2.1, (q3 q).2.2)
theorem dif_val (p q : Rat) : valQ (difQ p q) = p - q ∧ (difQ p q).2.2 ≠ 0 := by
  have := plusN_rat (x := q3 p) (y := (!(q3 q).1, (q3 q).2.1, (q3 q).2.2)) (den_ne p) (den_ne q)
  rwa [less_val, valQ_of, valQ_of, ← Rat.sub_eq_add_neg] at this
theorem dif_sm {p q : Rat} (hp : fits p) (hq : fits q) : sm 65 (difQ p q) := plus_sm (sm_q hp) (less_sm (sm_q hq))
theorem tol_q {c p q : Rat} (hc : fits c) (hp : fits p) (hq : fits q) : rat_Tolerant (ofQ c) (ofQ p) (ofQ q) = some (tolR c p q) := by
  unfold rat_Tolerant
  have c1 := cross_q (sm_mono (sm_q hp) (by decide : 32 ≤ 4000)) (sm_mono (sm_q hq) (by decide : 32 ≤ 4000))
  have c2 := cross_q (sm_mono (sm_q hq) (by decide : 32 ≤ 4000)) (sm_mono (sm_q hp) (by decide : 32 ≤ 4000))
  have c3 := nCompare_eq (Nat.le_trans (cross_sm (sm_q hp) (sm_q hq)) (by decide)) (Nat.le_trans (cross_sm (sm_q hq) (sm_q hp)) (by decide))
  have c4 := plus_q (sm_mono (sm_q hp) (by decide : 32 ≤ 4000)) (less_sm (sm_mono (sm_q hq) (by decide : 32 ≤ 4000)))
  have each : ∀ m : Rat, fits m → ratTimes (qN (q3 c)) ((qN (q3 m)).1, false) = some (qN (timesN (q3 c) (false, m.num.natAbs, m.den))) ∧ sm 2000 (timesN (q3 c) (false, m.num.natAbs, m.den)) ∧ valQ (timesN (q3 c) (false, m.num.natAbs, m.den)) = c * absR m ∧ (timesN (q3 c) (false, m.num.natAbs, m.den)).2.2 ≠ 0 := fun m hm => by
    have hm' : sm 32 (false, m.num.natAbs, m.den) := hm
    have h1 := timesN_rat (x := q3 c) (y := (false, m.num.natAbs, m.den)) (den_ne c) m.den_nz
    rw [val_plain, valQ_of] at h1
    exact ⟨times_q (y := (false, m.num.natAbs, m.den)) (sm_mono (sm_q hc) (by decide)) (sm_mono hm' (by decide)), sm_mono (times_sm (sm_q hc) hm') (by decide), h1.1, h1.2⟩
  have hD := sm_mono (dif_sm hp hq) (by decide : 65 ≤ 2000)
  obtain ⟨dv, dn⟩ := dif_val p q
  have da : mkRat (difQ p q).2.1 (difQ p q).2.2 = absR (p - q) := by rw [← dv, abs_val dn]
  rw [ratAll3 (ofQ_okRB hc) (ofQ_okRB hp) (ofQ_okRB hq), right3 hc hp hq, Option.bind_some, if_pos rfl, ratOf_q, Option.bind_some, ratOf_q, Option.bind_some, less_q, Option.bind_some, c4, Option.bind_some, Option.bind_some, Option.bind_some, c1, Option.bind_some, Option.bind_some, c2, Option.bind_some, c3, Option.bind_some]
  have fin : ∀ m : Rat, maxA p q = absR m → (if decide (¬ mkRat (difQ p q).2.1 (difQ p q).2.2 ≤ valQ (timesN (q3 c) (false, m.num.natAbs, m.den))) = true then (rat_Compare (ofQ p) (ofQ q)).bind fun x => some x else some 0) = some (tolR c p q) := fun m e => by
    have hv := timesN_rat (x := q3 c) (y := (false, m.num.natAbs, m.den)) (den_ne c) m.den_nz
    rw [val_plain, valQ_of] at hv
    rw [da, hv.1, compare_q hp hq]
    have hw : within c p q ↔ absR (p - q) ≤ c * absR m := by unfold within; rw [e]
    unfold tolR
    by_cases h : absR (p - q) ≤ c * absR m
    · rw [if_neg (by simp [h]), if_pos (hw.2 h)]
    · rw [if_pos (by simp only [h, not_false_eq_true, decide_true]), if_neg (mt hw.1 h)]; rfl
  by_cases hlt : absR p < absR q
  · rw [if_pos (cmpN_lt.2 (abs_lt_iff.1 hlt)), Option.bind_some, ratOf_q, Option.bind_some]
    obtain ⟨t1, t2, t3, t4⟩ := each q hq
    rw [t1, Option.bind_some, apart_q hD t2 dn t4]
    exact fin q (if_pos hlt)
  · rw [if_neg (fun h => hlt (abs_lt_iff.2 (cmpN_lt.1 h))), ratOf_q, Option.bind_some]
    obtain ⟨t1, t2, t3, t4⟩ := each p hp
    rw [t1, Option.bind_some, apart_q hD t2 dn t4]
    exact fin p (if_neg hlt)
end Go.FL
/-
  GP: the law ScalarOne.
-/
namespace Go.FL
open Go Go.Proofs

def law05_ScalarOne (a0 : RT) (a1 : RT) : Option (Bool) := ((ref2Right a0).bind fun x1 => (Option.bind ((if x1 = true then ((ref2Right a1).bind fun x3 => (some (!x3))) else (some true)) : Option (Bool)) fun (z1 : Bool) => (if z1 = true then (law05_live.bind fun x4 => (some (x4))) else ((law05_isSo 60 a0 a1).bind fun x5 => ((law05_isSo 61 a0 a1).bind fun x6 => ((law05_isSo 62 a0 a1).bind fun x7 => (jn (fun (z8 : Int) => (jn (fun (z9 : Int) => (jn (fun (z10 : Int) => (law05_live.bind fun x11 => (Option.bind ((if x11 = true then (if z10 = 1 then ((law05_isSo 8804 a0 a1).bind fun x13 => (if x5 = true then (if (x13 == true) = true then ((law05_isSo 8805 a0 a1).bind fun x14 => (if x6 = true then (if (x14 == true) = true then ((law05_isSo 8800 a0 a1).bind fun x15 => (some (x15 == (!x6)))) else (some false)) else (if (x14 == x7) = true then ((law05_isSo 8800 a0 a1).bind fun x16 => (some (x16 == (!x6)))) else (some false)))) else (some false)) else (if (x13 == x6) = true then ((law05_isSo 8805 a0 a1).bind fun x17 => (if x6 = true then (if (x17 == true) = true then ((law05_isSo 8800 a0 a1).bind fun x18 => (some (x18 == (!x6)))) else (some false)) else (if (x17 == x7) = true then ((law05_isSo 8800 a0 a1).bind fun x19 => (some (x19 == (!x6)))) else (some false)))) else (some false)))) else (some false)) else (some false)) : Option (Bool)) fun (z11 : Bool) => (some (z11))))) fun K2 => (if x7 = true then (K2 (w64 (z9 + 1))) else (K2 z9)))) fun K1 => (if x6 = true then (K1 (w64 (z8 + 1))) else (K1 z8)))) fun K0 => (if x5 = true then (K0 (w64 (0 + 1))) else (K0 0)))))))))
set_option maxHeartbeats 4000000 in
theorem law05_ScalarOne_ok {a0 : RT} {a1 : RT} {r : Bool} (h : law05_ScalarOne a0 a1 = some r) :
    Fn Tryz.prog 5 [.ag [.b a0.1, .sl (L a0.2.1), .sl (L a0.2.2)], .ag [.b a1.1, .sl (L a1.2.1), .sl (L a1.2.2)]] (.d (.b r)) := by
  unfold law05_ScalarOne at h
  refine Fn.of (rs := [.tmp 4]) (nt := 69) Tryz.func5 rfl rfl rfl (by simp) rfl ?_; refine .seq ?_; refine .region ?_; refine vk (vbx) ?_; refine vk (vbx) ?_; refine asd ?_; refine rn ?_; refine .gh (Gh.keep [2, 3, 4] rfl) ?_; refine .seq ?_; refine .seq ?_
  obtain ⟨x1, hx1, h⟩ := bnd h
  obtain ⟨z1, hz, h⟩ := bnd h
  refine AW.mr (σ := Unit) (fun _ => True) (fun _ => [(2, .d (.ptr [.b a0.1, .sl (L a0.2.1), .sl (L a0.2.2)])), (3, .d (.ptr [.b a1.1, .sl (L a1.2.1), .sl (L a1.2.2)])), (4, .d (.b false)), (16, .d (.b z1))]) (fun _ => []) ?_ ?_
  · skip
    refine .region ?_; refine vk (vlda gA_R gS_R) ?_; refine vk (vcl0 (ref2Right_ok hx1) Tryz.call19) ?_; refine vk (vnt) ?_
    by_cases hc : x1 = true
    · replace hz := ite_t hc hz
      have hb0 : (!x1) = false := (ntf hc)
      refine vk (VOK.lit (vmvd) hb0) ?_; refine vk (vlda gA_R gS_R) ?_
      obtain ⟨x3, hx3, hz⟩ := bnd hz
      refine vk (vcl0 (ref2Right_ok hx3) Tryz.call19) ?_; refine vk (vnt) ?_; refine vk (vpkd) ?_; refine RL.gh (Gh.keep [2, 3, 4, 16] rfl) ?_; refine .nil ?_
      cases hz
      exact jr () trivial
    replace hz := ite_f hc hz
    have hb0 : (!x1) = true := (ntt (bf hc))
    refine vk (VOK.lit (vmvd) hb0) ?_; refine gf ?_; refine gf ?_; refine gf ?_; refine vk (vpkd) ?_; refine RL.gh (Gh.keep [2, 3, 4, 16] rfl) ?_; refine .nil ?_
    cases hz
    exact jr () trivial
  rintro _ _
  by_cases hc : z1 = true
  · replace h := ite_t hc h
    refine cnt hc ?_; refine .seq ?_; refine .region ?_
    obtain ⟨x4, hx4, h⟩ := bnd h
    refine vk (vcl0 (law05_live_ok hx4) Tryz.call17) ?_; refine asd ?_; refine rn ?_; refine .gh (Gh.keep [2, 3, 4] rfl) ?_; refine .ret ?_
    cases h
    exact ⟨rfl, rfl⟩
  replace h := ite_f hc h
  refine cnf (bf hc) ?_; refine .skip ?_
  show AW _ _ _ _ _ _
  refine .seq ?_; refine .drawn 9 mixed (by kernel_rfl) ?_; refine dv (vlda gA_R gS_R) ?_; refine dv (vlda gA_R gS_R) ?_
  obtain ⟨x5, hx5, h⟩ := bnd h
  refine dv (vcl0 (law05_isSo_ok hx5) Tryz.call20) ?_; refine dv (vlda gA_R gS_R) ?_; refine dv (vlda gA_R gS_R) ?_
  obtain ⟨x6, hx6, h⟩ := bnd h
  refine dv (vcl0 (law05_isSo_ok hx6) Tryz.call20) ?_; refine dv (vlda gA_R gS_R) ?_; refine dv (vlda gA_R gS_R) ?_
  obtain ⟨x7, hx7, h⟩ := bnd h
  refine dv (vcl0 (law05_isSo_ok hx7) Tryz.call20) ?_; refine dz ?_; refine asd ?_; refine asd ?_; refine asd ?_; refine rn ?_; refine .gh (Gh.keep [2, 3, 4, 5, 6, 7] rfl) ?_; refine .seq ?_; refine .region ?_; refine asd ?_; refine rn ?_; refine .gh (Gh.keep [2, 3, 4, 5, 6, 7, 8] rfl) ?_; refine .seq ?_; refine .seq ?_; refine .region ?_; refine vk (vmvd) ?_; refine rn ?_; refine .gh (Gh.keep [2, 3, 4, 5, 6, 7, 8, 27] rfl) ?_
  obtain ⟨K0, hK0, h⟩ := jn_out h
  refine AW.mr (σ := Int) (fun p => K0 p = some r) (fun p => [(2, .d (.ptr [.b a0.1, .sl (L a0.2.1), .sl (L a0.2.2)])), (3, .d (.ptr [.b a1.1, .sl (L a1.2.1), .sl (L a1.2.2)])), (4, .d (.b false)), (5, .d (.b x5)), (6, .d (.b x6)), (7, .d (.b x7)), (8, .d (.i .i64 p))]) (fun p => []) ?_ ?_
  · skip
    by_cases hc : x5 = true
    · replace h := ite_t hc h
      refine cnt hc ?_; refine .region ?_; refine vk (vmvd) ?_; refine vk (vbi) ?_; refine asd ?_; refine RL.gh (Gh.keep [2, 3, 4, 5, 6, 7, 8] rfl) ?_; refine .nil ?_
      exact jr ((w64 (0 + 1))) h
    replace h := ite_f hc h
    refine cnf (bf hc) ?_; refine .gh (Gh.keep [2, 3, 4, 5, 6, 7, 8] rfl) ?_; refine .skip ?_
    exact jr (0) h
  rintro z8 h
  try dsimp only at h ⊢
  subst hK0
  show AW _ _ _ _ _ _
  refine .seq ?_; refine .seq ?_; refine .region ?_; refine vk (vmvd) ?_; refine rn ?_; refine .gh (Gh.keep [2, 3, 4, 5, 6, 7, 8, 30] rfl) ?_
  obtain ⟨K1, hK1, h⟩ := jn_out h
  refine AW.mr (σ := Int) (fun p => K1 p = some r) (fun p => [(2, .d (.ptr [.b a0.1, .sl (L a0.2.1), .sl (L a0.2.2)])), (3, .d (.ptr [.b a1.1, .sl (L a1.2.1), .sl (L a1.2.2)])), (4, .d (.b false)), (5, .d (.b x5)), (6, .d (.b x6)), (7, .d (.b x7)), (8, .d (.i .i64 p))]) (fun p => []) ?_ ?_
  · skip
    by_cases hc : x6 = true
    · replace h := ite_t hc h
      refine cnt hc ?_; refine .region ?_; refine vk (vmvd) ?_; refine vk (vbi) ?_; refine asd ?_; refine RL.gh (Gh.keep [2, 3, 4, 5, 6, 7, 8] rfl) ?_; refine .nil ?_
      exact jr ((w64 (z8 + 1))) h
    replace h := ite_f hc h
    refine cnf (bf hc) ?_; refine .gh (Gh.keep [2, 3, 4, 5, 6, 7, 8] rfl) ?_; refine .skip ?_
    exact jr (z8) h
  rintro z9 h
  try dsimp only at h ⊢
  subst hK1
  show AW _ _ _ _ _ _
  refine .seq ?_; refine .seq ?_; refine .region ?_; refine vk (vmvd) ?_; refine rn ?_; refine .gh (Gh.keep [2, 3, 4, 5, 6, 7, 8, 33] rfl) ?_
  obtain ⟨K2, hK2, h⟩ := jn_out h
  refine AW.mr (σ := Int) (fun p => K2 p = some r) (fun p => [(2, .d (.ptr [.b a0.1, .sl (L a0.2.1), .sl (L a0.2.2)])), (3, .d (.ptr [.b a1.1, .sl (L a1.2.1), .sl (L a1.2.2)])), (4, .d (.b false)), (5, .d (.b x5)), (6, .d (.b x6)), (7, .d (.b x7)), (8, .d (.i .i64 p))]) (fun p => []) ?_ ?_
  · skip
    by_cases hc : x7 = true
    · replace h := ite_t hc h
      refine cnt hc ?_; refine .region ?_; refine vk (vmvd) ?_; refine vk (vbi) ?_; refine asd ?_; refine RL.gh (Gh.keep [2, 3, 4, 5, 6, 7, 8] rfl) ?_; refine .nil ?_
      exact jr ((w64 (z9 + 1))) h
    replace h := ite_f hc h
    refine cnf (bf hc) ?_; refine .gh (Gh.keep [2, 3, 4, 5, 6, 7, 8] rfl) ?_; refine .skip ?_
    exact jr (z9) h
  rintro z10 h
  try dsimp only at h ⊢
  subst hK2
  show AW _ _ _ _ _ _
  refine .seq ?_
  obtain ⟨x11, hx11, h⟩ := bnd h
  obtain ⟨z11, hz, h⟩ := bnd h
  refine AW.mr (σ := Unit) (fun _ => True) (fun _ => [(4, .d (.b z11))]) (fun _ => []) ?_ ?_
  · skip
    refine .region ?_; refine vk (vcl0 (law05_live_ok hx11) Tryz.call17) ?_
    by_cases hc : x11 = true
    · replace hz := ite_t hc hz
      have hb0 : x11 = true := hc
      refine vk (VOK.lit (vmvd) hb0) ?_; refine vk (vmvd) ?_; refine vk (vbi) ?_; refine vk (vpkd) ?_
      by_cases hc : z10 = 1
      · replace hz := ite_t hc hz
        have hb1 : (decide (z10 = 1)) = true := (decide_eq_true hc)
        refine vk (VOK.lit (vmvd) hb1) ?_; refine vk (vlda gA_R gS_R) ?_; refine vk (vlda gA_R gS_R) ?_
        obtain ⟨x13, hx13, hz⟩ := bnd hz
        refine vk (vcl0 (law05_isSo_ok hx13) Tryz.call20) ?_; refine vk (vmvd) ?_
        by_cases hc : x5 = true
        · replace hz := ite_t hc hz
          have hb2 : x5 = true := hc
          refine vk (VOK.lit (vmvd) hb2) ?_; refine gf ?_; refine vk (vpkd) ?_; refine vk (vbbn (.inl rfl) bo) ?_; refine vk (vpkd) ?_
          by_cases hc : (x13 == true) = true
          · replace hz := ite_t hc hz
            have hb3 : (x13 == true) = true := hc
            refine vk (VOK.lit (vmvd) hb3) ?_; refine vk (vlda gA_R gS_R) ?_; refine vk (vlda gA_R gS_R) ?_
            obtain ⟨x14, hx14, hz⟩ := bnd hz
            refine vk (vcl0 (law05_isSo_ok hx14) Tryz.call20) ?_; refine vk (vmvd) ?_
            by_cases hc : x6 = true
            · replace hz := ite_t hc hz
              have hb4 : x6 = true := hc
              refine vk (VOK.lit (vmvd) hb4) ?_; refine gf ?_; refine vk (vpkd) ?_; refine vk (vbbn (.inl rfl) bo) ?_; refine vk (vpkd) ?_
              by_cases hc : (x14 == true) = true
              · replace hz := ite_t hc hz
                have hb5 : (x14 == true) = true := hc
                refine vk (VOK.lit (vmvd) hb5) ?_; refine vk (vlda gA_R gS_R) ?_; refine vk (vlda gA_R gS_R) ?_
                obtain ⟨x15, hx15, hz⟩ := bnd hz
                refine vk (vcl0 (law05_isSo_ok hx15) Tryz.call20) ?_; refine vk (vmvd) ?_; refine vk (vnt) ?_; refine vk (vbbn (.inl rfl) bo) ?_; refine vk (vpkd) ?_; refine asd ?_; refine RL.gh (Gh.keep [4] rfl) ?_; refine .nil ?_
                cases hz
                exact jr () trivial
              replace hz := ite_f hc hz
              have hb5 : (x14 == true) = false := (bf hc)
              refine vk (VOK.lit (vmvd) hb5) ?_; refine gf ?_; refine gf ?_; refine gf ?_; refine gf ?_; refine gf ?_; refine gf ?_; refine vk (vpkd) ?_; refine asd ?_; refine RL.gh (Gh.keep [4] rfl) ?_; refine .nil ?_
              cases hz
              exact jr () trivial
            replace hz := ite_f hc hz
            have hb4 : x6 = false := (bf hc)
            refine vk (VOK.lit (vmvd) hb4) ?_; refine vk (vmvd) ?_; refine vk (vpkd) ?_; refine vk (vbbn (.inl rfl) bo) ?_; refine vk (vpkd) ?_
            by_cases hc : (x14 == x7) = true
            · replace hz := ite_t hc hz
              have hb5 : (x14 == x7) = true := hc
              refine vk (VOK.lit (vmvd) hb5) ?_; refine vk (vlda gA_R gS_R) ?_; refine vk (vlda gA_R gS_R) ?_
              obtain ⟨x16, hx16, hz⟩ := bnd hz
              refine vk (vcl0 (law05_isSo_ok hx16) Tryz.call20) ?_; refine vk (vmvd) ?_; refine vk (vnt) ?_; refine vk (vbbn (.inl rfl) bo) ?_; refine vk (vpkd) ?_; refine asd ?_; refine RL.gh (Gh.keep [4] rfl) ?_; refine .nil ?_
              cases hz
              exact jr () trivial
            replace hz := ite_f hc hz
            have hb5 : (x14 == x7) = false := (bf hc)
            refine vk (VOK.lit (vmvd) hb5) ?_; refine gf ?_; refine gf ?_; refine gf ?_; refine gf ?_; refine gf ?_; refine gf ?_; refine vk (vpkd) ?_; refine asd ?_; refine RL.gh (Gh.keep [4] rfl) ?_; refine .nil ?_
            cases hz
            exact jr () trivial
          replace hz := ite_f hc hz
          have hb3 : (x13 == true) = false := (bf hc)
          refine vk (VOK.lit (vmvd) hb3) ?_; refine gf ?_; refine gf ?_; refine gf ?_; refine gf ?_; refine gfu ?_; refine gf ?_; refine gf ?_; refine gf ?_; refine vk (vpkd) ?_; refine vk (vmvd) ?_; refine gf ?_; refine gf ?_; refine gf ?_; refine gf ?_; refine gf ?_; refine gf ?_; refine vk (vpkd) ?_; refine asd ?_; refine RL.gh (Gh.keep [4] rfl) ?_; refine .nil ?_
          cases hz
          exact jr () trivial
        replace hz := ite_f hc hz
        have hb2 : x5 = false := (bf hc)
        refine vk (VOK.lit (vmvd) hb2) ?_; refine vk (vmvd) ?_; refine vk (vpkd) ?_; refine vk (vbbn (.inl rfl) bo) ?_; refine vk (vpkd) ?_
        by_cases hc : (x13 == x6) = true
        · replace hz := ite_t hc hz
          have hb3 : (x13 == x6) = true := hc
          refine vk (VOK.lit (vmvd) hb3) ?_; refine vk (vlda gA_R gS_R) ?_; refine vk (vlda gA_R gS_R) ?_
          obtain ⟨x17, hx17, hz⟩ := bnd hz
          refine vk (vcl0 (law05_isSo_ok hx17) Tryz.call20) ?_; refine vk (vmvd) ?_
          by_cases hc : x6 = true
          · replace hz := ite_t hc hz
            have hb4 : x6 = true := hc
            refine vk (VOK.lit (vmvd) hb4) ?_; refine gf ?_; refine vk (vpkd) ?_; refine vk (vbbn (.inl rfl) bo) ?_; refine vk (vpkd) ?_
            by_cases hc : (x17 == true) = true
            · replace hz := ite_t hc hz
              have hb5 : (x17 == true) = true := hc
              refine vk (VOK.lit (vmvd) hb5) ?_; refine vk (vlda gA_R gS_R) ?_; refine vk (vlda gA_R gS_R) ?_
              obtain ⟨x18, hx18, hz⟩ := bnd hz
              refine vk (vcl0 (law05_isSo_ok hx18) Tryz.call20) ?_; refine vk (vmvd) ?_; refine vk (vnt) ?_; refine vk (vbbn (.inl rfl) bo) ?_; refine vk (vpkd) ?_; refine asd ?_; refine RL.gh (Gh.keep [4] rfl) ?_; refine .nil ?_
              cases hz
              exact jr () trivial
            replace hz := ite_f hc hz
            have hb5 : (x17 == true) = false := (bf hc)
            refine vk (VOK.lit (vmvd) hb5) ?_; refine gf ?_; refine gf ?_; refine gf ?_; refine gf ?_; refine gf ?_; refine gf ?_; refine vk (vpkd) ?_; refine asd ?_; refine RL.gh (Gh.keep [4] rfl) ?_; refine .nil ?_
            cases hz
            exact jr () trivial
          replace hz := ite_f hc hz
          have hb4 : x6 = false := (bf hc)
          refine vk (VOK.lit (vmvd) hb4) ?_; refine vk (vmvd) ?_; refine vk (vpkd) ?_; refine vk (vbbn (.inl rfl) bo) ?_; refine vk (vpkd) ?_
          by_cases hc : (x17 == x7) = true
          · replace hz := ite_t hc hz
            have hb5 : (x17 == x7) = true := hc
            refine vk (VOK.lit (vmvd) hb5) ?_; refine vk (vlda gA_R gS_R) ?_; refine vk (vlda gA_R gS_R) ?_
            obtain ⟨x19, hx19, hz⟩ := bnd hz
            refine vk (vcl0 (law05_isSo_ok hx19) Tryz.call20) ?_; refine vk (vmvd) ?_; refine vk (vnt) ?_; refine vk (vbbn (.inl rfl) bo) ?_; refine vk (vpkd) ?_; refine asd ?_; refine RL.gh (Gh.keep [4] rfl) ?_; refine .nil ?_
            cases hz
            exact jr () trivial
          replace hz := ite_f hc hz
          have hb5 : (x17 == x7) = false := (bf hc)
          refine vk (VOK.lit (vmvd) hb5) ?_; refine gf ?_; refine gf ?_; refine gf ?_; refine gf ?_; refine gf ?_; refine gf ?_; refine vk (vpkd) ?_; refine asd ?_; refine RL.gh (Gh.keep [4] rfl) ?_; refine .nil ?_
          cases hz
          exact jr () trivial
        replace hz := ite_f hc hz
        have hb3 : (x13 == x6) = false := (bf hc)
        refine vk (VOK.lit (vmvd) hb3) ?_; refine gf ?_; refine gf ?_; refine gf ?_; refine gf ?_; refine gfu ?_; refine gf ?_; refine gf ?_; refine gf ?_; refine vk (vpkd) ?_; refine vk (vmvd) ?_; refine gf ?_; refine gf ?_; refine gf ?_; refine gf ?_; refine gf ?_; refine gf ?_; refine vk (vpkd) ?_; refine asd ?_; refine RL.gh (Gh.keep [4] rfl) ?_; refine .nil ?_
        cases hz
        exact jr () trivial
      replace hz := ite_f hc hz
      have hb1 : (decide (z10 = 1)) = false := (decide_eq_false hc)
      refine vk (VOK.lit (vmvd) hb1) ?_; refine gf ?_; refine gf ?_; refine gf ?_; refine gf ?_; refine gfu ?_; refine gf ?_; refine gf ?_; refine gf ?_; refine vk (vpkd) ?_; refine vk (vmvd) ?_; refine gf ?_; refine gf ?_; refine gf ?_; refine gf ?_; refine gfu ?_; refine gf ?_; refine gf ?_; refine gf ?_; refine vk (vpkd) ?_; refine vk (vmvd) ?_; refine gf ?_; refine gf ?_; refine gf ?_; refine gf ?_; refine gf ?_; refine gf ?_; refine vk (vpkd) ?_; refine asd ?_; refine RL.gh (Gh.keep [4] rfl) ?_; refine .nil ?_
      cases hz
      exact jr () trivial
    replace hz := ite_f hc hz
    have hb0 : x11 = false := (bf hc)
    refine vk (VOK.lit (vmvd) hb0) ?_; refine gf ?_; refine gf ?_; refine vk (vpkd) ?_; refine vk (vmvd) ?_; refine gf ?_; refine gf ?_; refine gf ?_; refine gf ?_; refine gfu ?_; refine gf ?_; refine gf ?_; refine gf ?_; refine vk (vpkd) ?_; refine vk (vmvd) ?_; refine gf ?_; refine gf ?_; refine gf ?_; refine gf ?_; refine gfu ?_; refine gf ?_; refine gf ?_; refine gf ?_; refine vk (vpkd) ?_; refine vk (vmvd) ?_; refine gf ?_; refine gf ?_; refine gf ?_; refine gf ?_; refine gf ?_; refine gf ?_; refine vk (vpkd) ?_; refine asd ?_; refine RL.gh (Gh.keep [4] rfl) ?_; refine .nil ?_
    cases hz
    exact jr () trivial
  rintro _ _
  refine .ret ?_
  cases h
  exact ⟨rfl, rfl⟩
end Go.FL
/-
  Plain laws of scalar functions: ScalarOne.
-/
namespace Go.FL
open Go Go.Proofs

theorem optC_some {α β : Type} {y : α} {a : β} {f : α → β} : optC (some y) a f = f y := rfl
theorem zq5 : ofQ (0 : Rat) = (false, [], [1]) := by kernel_rfl
theorem env5 : law05_env = some (1, (false, [], [1]), 0) := by kernel_rfl
theorem zero_right5 : ratRight (false, [], [1]) = some true := by kernel_rfl
theorem truth5 (b : Bool) : ∃ t : RT, scalar_truth b = some t ∧ decide (((List.length t.2.1 : Nat) : Int) = 1) = b := by
  cases b
  · exact ⟨(false, [], [1]), by kernel_rfl, by decide⟩
  · exact ⟨(false, [1], [1]), by kernel_rfl, by decide⟩
theorem fits_0 : fits (0 : Rat) := fits_in64 (z := 0) in64_zero
theorem isSo_eq {g : Int} {p q : Rat} (hp : fits p) (hq : fits q) {d : FDV} {c : FT_int__bool} {b : Bool} (ht : tabAt (twosF (false, [], [1])) g = some ⟨d, fun x => scalar_comparing_1 x.1 x.2 c (false, [], [1])⟩) (hc : c.g (tolR 0 p q) = some b) :
    law05_isSo g (ofQ p) (ofQ q) = some b := by
  obtain ⟨t, h1, h2⟩ := truth5 b
  have e : scalar_Two (1, (false, [], [1]), 0) g (ofQ p) (ofQ q) = some (t, 0) := by
    unfold scalar_Two
    show optC (tabAt (twosF (false, [], [1])) g) _ _ = _
    rw [ht, optC_some]
    rw [show ratRight ((1, (false, [], [1]), 0) : Int × RT × Int).2.1 = some true from zero_right5, Option.bind_some, if_pos rfl, ratRight_eq (ofQ_okRB hp), Option.bind_some, ofQ_right hp, if_pos rfl, ratRight_eq (ofQ_okRB hq), Option.bind_some, ofQ_right hq]
    show Option.bind (scalar_comparing_1 (ofQ p) (ofQ q) c (false, [], [1])) _ = _
    unfold scalar_comparing_1
    have ht0 : rat_Tolerant (false, [], [1]) (ofQ p) (ofQ q) = some (tolR 0 p q) := by rw [← zq5]; exact tol_q fits_0 hp hq
    rw [ht0, Option.bind_some, hc, Option.bind_some, h1]; rfl
  unfold law05_isSo
  rw [env5, Option.bind_some, e, Option.bind_some]
  show some (_ && _) = _
  rw [h2]; rfl
theorem tol_vals5 (c p q : Rat) : tolR c p q = -1 ∨ tolR c p q = 0 ∨ tolR c p q = 1 := by
  unfold tolR; split
  · simp
  · exact cmpR_vals p q
theorem lawScalarOne {x y : RT} (hx : okRB x = true) (hy : okRB y = true) : law05_ScalarOne x y = some true := by
  unfold law05_ScalarOne
  rw [right2_eq hx hy]
  rcases two_cases (a := x) (b := y) with h | ⟨p, q, hp, hq, rfl, rfl⟩
  · rw [h]
    show Option.bind law05_live _ = _
    rw [live5]; rfl
  · rw [two_right hp hq]
    show Option.bind (law05_isSo 60 _ _) _ = _
    have s1 := isSo_eq (g := 60) hp hq (b := decide (tolR 0 p q < 0)) rfl rfl
    have s2 := isSo_eq (g := 8804) hp hq (b := decide (tolR 0 p q ≤ 0)) rfl rfl
    have s3 := isSo_eq (g := 61) hp hq (b := decide (tolR 0 p q = 0)) rfl rfl
    have s4 := isSo_eq (g := 8805) hp hq (b := decide (0 ≤ tolR 0 p q)) rfl rfl
    have s5 := isSo_eq (g := 62) hp hq (b := decide (0 < tolR 0 p q)) rfl rfl
    have s6 := isSo_eq (g := 8800) hp hq (b := !decide (tolR 0 p q = 0)) rfl rfl
    rw [s1, Option.bind_some, s3, Option.bind_some, s5, Option.bind_some]
    rw [s2, s4, s6]
    simp only [jn, live5, Option.bind_some]
    rcases tol_vals5 0 p q with h | h | h <;> rw [h] <;> decide
end Go.FL
/-
  The statement ScalarOneSaid: for every input the law gives true, and each argument reads as it read before.
-/
namespace Go.Proofs.YtbeekjoeaigngaaGreat.scalarOne
open Go.ChangeShapes Go.WideShapes Go.ChangeAt Go.RowKit Go.FL

theorem own : ownKnob Tryz.prog.godebug = none := by kernel_rfl
theorem laid : laidOutB Tryz.prog = true := by kernel_rfl
theorem params : ∀ t ∈ Tryz.f5.params.toList, Tryz.prog.readableRec t = true ∧ t < Tryz.prog.types.size := by
  intro t ht
  simp only [Tryz.params5, List.mem_cons, List.not_mem_nil, or_false] at ht
  rcases ht with rfl | rfl <;> exact ⟨by kernel_rfl, of_decide_eq_true (by kernel_rfl)⟩
set_option maxRecDepth 100000 in
theorem lifted (os : Os) (started : os.Started) (H : Type) (enc : TypeId × Value → H) :
    ReturnsInHanded {} Tryz.checked os 5 .any (Rows.scalarOneSpec.pre6 enc Tryz.prog Tryz.f5 Rows.scalarOneRow.domain false) (Rows.scalarOneSpec.post enc Tryz.prog Tryz.f5 false true false false) := by
  refine returnsInHanded_of_change_sized (C := Tryz.checked) own started (by kernel_rfl) Tryz.func5
    (ChangeSpec.witness6 (enc := enc) (C := Tryz.checked) false ⟨#[], #[.agg #[.bool false, .slice none 0 0, .slice none 0 0], .agg #[.bool false, .slice none 0 0, .slice none 0 0]], []⟩ 8 (by kernel_rfl) (by kernel_rfl) (by kernel_rfl) (by kernel_rfl)) ?_
  intro W base args ds gs before hval0 hW hcnd hsz _
  have hval : ∀ (j : Nat) t v, Tryz.f5.params[j]? = some t → args[j]? = some v → Value.okWide Tryz.prog W .any base t v := hval0
  have hW' := hW
  obtain ⟨p, q, hA0, hV, rfl, hfz, hnd⟩ := hW
  have hA : DataW.TrodAll enc Tryz.prog W 0 (fun _ => true) true Tryz.f5.params.toList args.toList ds p := hA0
  rw [Tryz.params5] at hA hval
  obtain ⟨v0, vs0, d0, ds0, p0, q0, hargs, rfl, rfl, h0, r0⟩ := trodAll_cons hA
  obtain ⟨v1, vs1, d1, ds1, p1, q1, rfl, rfl, rfl, h1, r1⟩ := trodAll_cons r0
  obtain ⟨rfl, rfl, rfl⟩ := trodAll_nil r1
  obtain rfl : args = #[v0, v1] := by cases args; simp_all
  obtain ⟨rfl, rfl⟩ := trodVars_none hV
  rw [Tryz.params5] at hsz
  have w0 : ∀ m ∈ DataW.weights Tryz.prog 32 d0, m ≤ reachBytes := fun m hm => by simpa using List.all_eq_true.1 hsz m (DataW.weights_mem_each (j := 0) rfl rfl m hm)
  obtain ⟨a0, o0, e0⟩ := arg_agg (v := v0) op_rat (let ⟨cs, h, _⟩ := okWide_struct (P := Tryz.prog) Tryz.underlying32 (hval 0 32 v0 rfl rfl); ⟨cs, h⟩) h0 w0
  have w1 : ∀ m ∈ DataW.weights Tryz.prog 32 d1, m ≤ reachBytes := fun m hm => by simpa using List.all_eq_true.1 hsz m (DataW.weights_mem_each (j := 1) rfl rfl m hm)
  obtain ⟨a1, o1, e1⟩ := arg_agg (v := v1) op_rat (let ⟨cs, h, _⟩ := okWide_struct (P := Tryz.prog) Tryz.underlying32 (hval 1 32 v1 rfl rfl); ⟨cs, h⟩) h1 w1
  refine (law_calls (law05_ScalarOne_ok (lawScalarOne o0 o1)) (.cons e0 (.cons e1 .nil))).mono fun e W' ⟨he, hb⟩ => ?_
  subst he
  exact ⟨_, rfl, post_law hW' rfl (fun _ => rfl) rfl Tryz.underlying4 laid params hb⟩

theorem over : Rows.scalarOneRow.holds Tryz.pinned (OpenSpec.ofChange Rows.scalarOneSpec) :=
  OpenClaim.holds_of_wide 5 Tryz.f5 rfl rfl rfl rfl rfl rfl rfl ⟨rfl, rfl, rfl, rfl, rfl⟩ rfl rfl rfl rfl rfl (by kernel_rfl) Tryz.func5 (by kernel_rfl)
    (of_decide_eq_true (by kernel_rfl)) (by unfold Func.isWrapper; first | (rw [if_pos (by decide +kernel)]; kernel_rfl) | (rw [if_neg (by decide +kernel)]; exact ⟨rfl, rfl⟩))
    (fun os started H enc _ => lifted os started H enc)

theorem proved : Rows.ScalarOneSaid :=
  over
end Go.Proofs.YtbeekjoeaigngaaGreat.scalarOne
