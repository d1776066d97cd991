/-
  The law: its function printed as a pure function, its contract, the plain law, the statement
-/
import Derived.Test.YtijibkhkoopgpaaRdE
import Derived.Test.YtijibkhkoopgpaaRows
set_option linter.unusedVariables false
/-
  GP: the law RatMakes.
-/
namespace Go.FL
open Go Go.Proofs

end Go.FL
/-
  GP: the law RatReckons.
-/
namespace Go.FL
open Go Go.Proofs

end Go.FL
/-
  GP: the law RatOrders.
-/
namespace Go.FL
open Go Go.Proofs

end Go.FL
/-
  GP: the law RatRounds.
-/
namespace Go.FL
open Go Go.Proofs

end Go.FL
/-
  Plain laws, rat 7: RatMakes, RatReckons, RatOrders, RatRounds.
-/
namespace Go.FL
open Go Go.Proofs

theorem cmp_eq {p q : Rat} : cmpR p q = 0 ↔ p = q := by
  unfold cmpR
  by_cases h : p < q
  · rw [if_pos h]; constructor
    · intro h; omega
    · rintro rfl; exact absurd h Rat.lt_irrefl
  · rw [if_neg h]
    by_cases h2 : p = q
    · rw [if_pos h2]; simp [h2]
    · rw [if_neg h2]; simp [h2]
end Go.FL
/-
  GP: the law RatBack.
-/
namespace Go.FL
open Go Go.Proofs

end Go.FL
/-
  GP: the law RatResidues.
-/
namespace Go.FL
open Go Go.Proofs

end Go.FL
/-
  Plain laws, rat 8: RatBack, RatResidues.
-/
namespace Go.FL
open Go Go.Proofs

end Go.FL
/-
  GP: the law RatCompares.
-/
namespace Go.FL
open Go Go.Proofs

def law02_RatCompares (a0 : RT) (a1 : RT) (a2 : RT) : Option (Bool) := (law02_live.bind fun x1 => (Option.bind ((if x1 = true then ((rat_Compare a1 a2).bind fun x3 => ((ref02_Compare a1 a2).bind fun x4 => (if x3 = x4 then ((rat_Tolerant a0 a1 a2).bind fun x5 => ((ref02_Tolerant a0 a1 a2).bind fun x6 => (some (!(decide (x5 = x6)))))) else (some true)))) else (some true)) : Option (Bool)) fun (z1 : Bool) => (if z1 = true then (some (false)) else ((rat_Compare a1 a2).bind fun x7 => ((rat_Compare a2 a1).bind fun x8 => (Option.bind ((if x7 = (IntKind.wrap .i64 (0 - x8)) then ((rat_Tolerant a0 a1 a2).bind fun x10 => ((rat_Tolerant a0 a2 a1).bind fun x11 => (if x10 = (IntKind.wrap .i64 (0 - x11)) then ((ratOfInt 0).bind fun x12 => ((rat_Tolerant x12 a1 a2).bind fun x13 => ((rat_Compare a1 a2).bind fun x14 => (some (decide (x13 = x14)))))) else (some false)))) else (some false)) : Option (Bool)) fun (z7 : Bool) => (some (z7))))))))
theorem law02_RatCompares_ok {a0 : RT} {a1 : RT} {a2 : RT} {r : Bool} (h : law02_RatCompares a0 a1 a2 = some r) :
    Fn Try.prog 12 [.ag [.b a0.1, .sl (L a0.2.1), .sl (L a0.2.2)], .ag [.b a1.1, .sl (L a1.2.1), .sl (L a1.2.2)], .ag [.b a2.1, .sl (L a2.2.1), .sl (L a2.2.2)]] (.d (.b r)) := by
  unfold law02_RatCompares at h
  refine Fn.of (rs := [.tmp 6]) (nt := 59) Try.func12 rfl rfl rfl (by simp) rfl ?_
  refine .seq ?_
  refine .region ?_
  refine vk (vbx) ?_
  refine vk (vbx) ?_
  refine vk (vbx) ?_
  refine asd ?_
  refine rn ?_
  refine .gh (Gh.keep [3, 4, 5, 6] rfl) ?_
  refine .seq ?_
  refine .seq ?_
  obtain ⟨x1, hx1, h⟩ := bnd h
  obtain ⟨z1, hz, h⟩ := bnd h
  refine AW.mr (σ := Unit) (fun _ => True) (fun _ => [(3, .d (.ptr [.b a0.1, .sl (L a0.2.1), .sl (L a0.2.2)])), (4, .d (.ptr [.b a1.1, .sl (L a1.2.1), .sl (L a1.2.2)])), (5, .d (.ptr [.b a2.1, .sl (L a2.2.1), .sl (L a2.2.2)])), (6, .d (.b false)), (28, .d (.b z1))]) (fun _ => []) ?_ ?_
  · skip
    refine .drawn 22 mixed (by kernel_rfl) ?_
    refine dv (vcl0 (law02_live_ok hx1) Try.call15) ?_
    refine dv (vnt) ?_
    by_cases hc : x1 = true
    · replace hz := ite_t hc hz
      have hb0 : (!x1) = false := (ntf hc)
      refine dv (VOK.lit (vmvd) hb0) ?_
      refine dv (vlda gA_R gS_R) ?_
      refine dv (vlda gA_R gS_R) ?_
      obtain ⟨x3, hx3, hz⟩ := bnd hz
      refine dv (vcl0 (rat_Compare_ok hx3) Try.call38) ?_
      refine dv (vlda gA_R gS_R) ?_
      refine dv (vlda gA_R gS_R) ?_
      obtain ⟨x4, hx4, hz⟩ := bnd hz
      refine dv (vcl0 (ref02_Compare_ok hx4) Try.call47) ?_
      refine dv (vbi) ?_
      refine dv (vpkd) ?_
      by_cases hc : x3 = x4
      · replace hz := ite_t hc hz
        have hb1 : (!(decide (x3 = x4))) = false := (ntf (decide_eq_true hc))
        refine dv (VOK.lit (vmvd) hb1) ?_
        refine dv (vlda gA_R gS_R) ?_
        refine dv (vlda gA_R gS_R) ?_
        refine dv (vlda gA_R gS_R) ?_
        obtain ⟨x5, hx5, hz⟩ := bnd hz
        refine dv (vcl0 (rat_Tolerant_ok hx5) Try.call48) ?_
        refine dv (vlda gA_R gS_R) ?_
        refine dv (vlda gA_R gS_R) ?_
        refine dv (vlda gA_R gS_R) ?_
        obtain ⟨x6, hx6, hz⟩ := bnd hz
        refine dv (vcl0 (ref02_Tolerant_ok hx6) Try.call49) ?_
        refine dv (vbi) ?_
        refine dv (vpkd) ?_
        refine dz ?_
        refine RL.gh (Gh.keep [3, 4, 5, 6, 28] rfl) ?_
        refine .nil ?_
        cases hz
        exact jr () trivial
      replace hz := ite_f hc hz
      have hb1 : (!(decide (x3 = x4))) = true := (ntt (decide_eq_false hc))
      refine dv (VOK.lit (vmvd) hb1) ?_
      refine dgf ?_
      refine dgf ?_
      refine dgf ?_
      refine dgf ?_
      refine dgf ?_
      refine dgf ?_
      refine dgf ?_
      refine dgf ?_
      refine dgf ?_
      refine dv (vpkd) ?_
      refine dz ?_
      refine RL.gh (Gh.keep [3, 4, 5, 6, 28] rfl) ?_
      refine .nil ?_
      cases hz
      exact jr () trivial
    replace hz := ite_f hc hz
    have hb0 : (!x1) = true := (ntt (bf hc))
    refine dv (VOK.lit (vmvd) hb0) ?_
    refine dgf ?_
    refine dgf ?_
    refine dgf ?_
    refine dgf ?_
    refine dgf ?_
    refine dgf ?_
    refine dgf ?_
    refine dv (vpkd) ?_
    refine dv (vmvd) ?_
    refine dgf ?_
    refine dgf ?_
    refine dgf ?_
    refine dgf ?_
    refine dgf ?_
    refine dgf ?_
    refine dgf ?_
    refine dgf ?_
    refine dgf ?_
    refine dv (vpkd) ?_
    refine dz ?_
    refine RL.gh (Gh.keep [3, 4, 5, 6, 28] rfl) ?_
    refine .nil ?_
    cases hz
    exact jr () trivial
  rintro _ _
  by_cases hc : z1 = true
  · replace h := ite_t hc h
    refine cnt hc ?_
    refine .seq ?_
    refine .region ?_
    refine asd ?_
    refine rn ?_
    refine .gh (Gh.keep [3, 4, 5, 6] rfl) ?_
    refine .ret ?_
    cases h
    exact ⟨rfl, rfl⟩
  replace h := ite_f hc h
  refine cnf (bf hc) ?_
  refine .skip ?_
  show AW _ _ _ _ _ _
  refine .seq ?_
  obtain ⟨x7, hx7, h⟩ := bnd h
  obtain ⟨x8, hx8, h⟩ := bnd h
  obtain ⟨z7, hz, h⟩ := bnd h
  refine AW.mr (σ := Unit) (fun _ => True) (fun _ => [(6, .d (.b z7))]) (fun _ => []) ?_ ?_
  · skip
    refine .drawn 30 mixed (by kernel_rfl) ?_
    refine dv (vlda gA_R gS_R) ?_
    refine dv (vlda gA_R gS_R) ?_
    refine dv (vcl0 (rat_Compare_ok hx7) Try.call38) ?_
    refine dv (vlda gA_R gS_R) ?_
    refine dv (vlda gA_R gS_R) ?_
    refine dv (vcl0 (rat_Compare_ok hx8) Try.call38) ?_
    refine dv (vng) ?_
    refine dv (vbi) ?_
    by_cases hc : x7 = (IntKind.wrap .i64 (0 - x8))
    · replace hz := ite_t hc hz
      have hb0 : (decide (x7 = (IntKind.wrap .i64 (0 - x8)))) = true := (decide_eq_true hc)
      refine dv (VOK.lit (vmvd) hb0) ?_
      refine dv (vlda gA_R gS_R) ?_
      refine dv (vlda gA_R gS_R) ?_
      refine dv (vlda gA_R gS_R) ?_
      obtain ⟨x10, hx10, hz⟩ := bnd hz
      refine dv (vcl0 (rat_Tolerant_ok hx10) Try.call48) ?_
      refine dv (vlda gA_R gS_R) ?_
      refine dv (vlda gA_R gS_R) ?_
      refine dv (vlda gA_R gS_R) ?_
      obtain ⟨x11, hx11, hz⟩ := bnd hz
      refine dv (vcl0 (rat_Tolerant_ok hx11) Try.call48) ?_
      refine dv (vng) ?_
      refine dv (vbi) ?_
      refine dv (vpkd) ?_
      by_cases hc : x10 = (IntKind.wrap .i64 (0 - x11))
      · replace hz := ite_t hc hz
        have hb1 : (decide (x10 = (IntKind.wrap .i64 (0 - x11)))) = true := (decide_eq_true hc)
        refine dv (VOK.lit (vmvd) hb1) ?_
        obtain ⟨x12, hx12, hz⟩ := bnd hz
        refine dv (vcl0 (ratOfInt_ok hx12) Try.call28) ?_
        refine dv (vlda gA_R gS_R) ?_
        refine dv (vlda gA_R gS_R) ?_
        obtain ⟨x13, hx13, hz⟩ := bnd hz
        refine dv (vcl0 (rat_Tolerant_ok hx13) Try.call48) ?_
        refine dv (vlda gA_R gS_R) ?_
        refine dv (vlda gA_R gS_R) ?_
        obtain ⟨x14, hx14, hz⟩ := bnd hz
        refine dv (vcl0 (rat_Compare_ok hx14) Try.call38) ?_
        refine dv (vbi) ?_
        refine dv (vpkd) ?_
        refine dz ?_
        refine asd ?_
        refine RL.gh (Gh.keep [6] rfl) ?_
        refine .nil ?_
        cases hz
        exact jr () trivial
      replace hz := ite_f hc hz
      have hb1 : (decide (x10 = (IntKind.wrap .i64 (0 - x11)))) = false := (decide_eq_false hc)
      refine dv (VOK.lit (vmvd) hb1) ?_
      refine dgf ?_
      refine dgf ?_
      refine dgf ?_
      refine dgf ?_
      refine dgf ?_
      refine dgf ?_
      refine dgf ?_
      refine dgf ?_
      refine dv (vpkd) ?_
      refine dz ?_
      refine asd ?_
      refine RL.gh (Gh.keep [6] rfl) ?_
      refine .nil ?_
      cases hz
      exact jr () trivial
    replace hz := ite_f hc hz
    have hb0 : (decide (x7 = (IntKind.wrap .i64 (0 - x8)))) = false := (decide_eq_false hc)
    refine dv (VOK.lit (vmvd) hb0) ?_
    refine dgf ?_
    refine dgf ?_
    refine dgf ?_
    refine dgf ?_
    refine dgf ?_
    refine dgf ?_
    refine dgf ?_
    refine dgf ?_
    refine dgf ?_
    refine dgf ?_
    refine dv (vpkd) ?_
    refine dv (vmvd) ?_
    refine dgf ?_
    refine dgf ?_
    refine dgf ?_
    refine dgf ?_
    refine dgf ?_
    refine dgf ?_
    refine dgf ?_
    refine dgf ?_
    refine dv (vpkd) ?_
    refine dz ?_
    refine asd ?_
    refine RL.gh (Gh.keep [6] rfl) ?_
    refine .nil ?_
    cases hz
    exact jr () trivial
  rintro _ _
  refine .ret ?_
  cases h
  exact ⟨rfl, rfl⟩
end Go.FL
/-
  Plain laws, rat 9: RatCompares.
-/
namespace Go.FL
open Go Go.Proofs

theorem le_mk {a c : Int} {b d : Nat} (hb : b ≠ 0) (hd : d ≠ 0) : mkRat a b ≤ mkRat c d ↔ a * d ≤ c * b := by
  rw [Rat.mkRat_eq_div, Rat.mkRat_eq_div]
  have hb' : (0 : Rat) < ((b : Int) : Rat) := by exact_mod_cast Rat.intCast_lt_intCast.2 (show (0 : Int) < b by omega)
  have hd' : (0 : Rat) < ((d : Int) : Rat) := by exact_mod_cast Rat.intCast_lt_intCast.2 (show (0 : Int) < d by omega)
  have e1 : ((a : Rat) / (b : Rat)) * ((b : Int) : Rat) = a := Rat.div_mul_cancel (Rat.ne_of_gt hb')
  have e2 : ((c : Rat) / (d : Rat)) * ((d : Int) : Rat) = c := Rat.div_mul_cancel (Rat.ne_of_gt hd')
  generalize (a : Rat) / (b : Rat) = x at *
  generalize (c : Rat) / (d : Rat) = y at *
  have hbd := Rat.mul_pos hb' hd'
  have key : a * d ≤ c * b ↔ x * (((b : Int) : Rat) * ((d : Int) : Rat)) ≤ y * (((b : Int) : Rat) * ((d : Int) : Rat)) := by
    rw [← Rat.intCast_le_intCast, Rat.intCast_mul, Rat.intCast_mul, ← e1, ← e2]
    have h1 : x * ((b : Int) : Rat) * ((d : Int) : Rat) = x * (((b : Int) : Rat) * ((d : Int) : Rat)) := by grind
    have h2 : y * ((d : Int) : Rat) * ((b : Int) : Rat) = y * (((b : Int) : Rat) * ((d : Int) : Rat)) := by grind
    rw [h1, h2]
  rw [key]
  constructor
  · intro h; exact Rat.mul_le_mul_of_nonneg_right h (Rat.le_of_lt hbd)
  · intro h
    apply Rat.not_lt.1
    intro h2
    exact absurd (Rat.mul_lt_mul_of_pos_right h2 hbd) (Rat.not_lt.2 h)
def absR (p : Rat) : Rat := if p < 0 then -p else p
theorem abs_val {D : Q3} (h : D.2.2 ≠ 0) : absR (valQ D) = mkRat D.2.1 D.2.2 := by
  obtain ⟨b, n, d⟩ := D
  have h0 : (0 : Rat) ≤ mkRat n d := by
    have := (le_mk (a := 0) (c := n) (b := 1) (d := d) (by decide) h).2 (by omega)
    simpa using this
  show absR (mkRat (sg b n) d) = mkRat n d
  unfold absR
  cases b
  · rw [show sg false n = (n : Int) from rfl, if_neg (Rat.not_lt.2 h0)]
  · rw [show sg true n = -(n : Int) from rfl, ← Rat.neg_mkRat]
    generalize mkRat n d = x at *
    split <;> grind
theorem abs_of (p : Rat) : absR p = mkRat p.num.natAbs p.den := by
  have := abs_val (D := q3 p) (den_ne p)
  rwa [valQ_of] at this
theorem val_plain (p : Rat) : valQ (false, p.num.natAbs, p.den) = absR p := (abs_of p).symm
def maxA (p q : Rat) : Rat := if absR p < absR q then absR q else absR p
def within (c p q : Rat) : Prop := absR (p - q) ≤ c * maxA p q
instance (c p q : Rat) : Decidable (within c p q) := inferInstanceAs (Decidable (_ ≤ _))
/-- What Tolerant gives. -/
def tolR (c p q : Rat) : Int := if within c p q then 0 else cmpR p q
theorem cmpN_lt {m n : Nat} : cmpN m n < 0 ↔ m < n := by
  unfold cmpN; split
  · simp [*]
  · split <;> simp [*]
theorem cmpN_le {m n : Nat} : cmpN m n ≤ 0 ↔ m ≤ n := by
  unfold cmpN; split
  · simp; omega
  · split
    · simp; omega
    · constructor
      · intro h; omega
      · intro h; omega
theorem cmpN_gt {m n : Nat} : 0 < cmpN m n ↔ n < m := by
  rw [← Nat.not_le, ← cmpN_le]; omega
theorem abs_lt_iff {p q : Rat} : absR p < absR q ↔ p.num.natAbs * q.den < q.num.natAbs * p.den := by
  rw [← Rat.not_le, abs_of, abs_of, le_mk q.den_nz p.den_nz]
  rw [← Int.natCast_mul, ← Int.natCast_mul]
  omega
theorem apart_q {D T : Q3} (hD : sm 2000 D) (hT : sm 2000 T) (h1 : D.2.2 ≠ 0) (h2 : T.2.2 ≠ 0) {β : Type} (f : Bool → Option β) :
    (Option.bind ((if (qN T).2 = true then (if 0 < ((List.length (qN T).1.1 : Nat) : Int) then (some true) else ((ratCross (qN D).1 (qN T).1).bind fun x16 => ((ratCross (qN T).1 (qN D).1).bind fun x17 => ((nCompare x16 x17).bind fun x18 => (some (decide (0 < x18))))))) else ((ratCross (qN D).1 (qN T).1).bind fun x19 => ((ratCross (qN T).1 (qN D).1).bind fun x20 => ((nCompare x19 x20).bind fun x21 => (some (decide (0 < x21))))))) : Option (Bool)) f) =
      f (decide (¬ mkRat D.2.1 D.2.2 ≤ valQ T)) := by
  have c1 := cross_q (sm_mono hD (by decide : 2000 ≤ 4000)) (sm_mono hT (by decide : 2000 ≤ 4000))
  have c2 := cross_q (sm_mono hT (by decide : 2000 ≤ 4000)) (sm_mono hD (by decide : 2000 ≤ 4000))
  have c3 := nCompare_eq (Nat.le_trans (cross_sm hD hT) (by decide)) (Nat.le_trans (cross_sm hT hD) (by decide))
  rw [c1, Option.bind_some, c2, Option.bind_some, c3, Option.bind_some]
  have e : decide (¬ mkRat D.2.1 D.2.2 ≤ valQ T) = if T.1 = true then (if T.2.1 ≠ 0 then true else decide (0 < cmpN (D.2.1 * T.2.2) (T.2.1 * D.2.2))) else decide (0 < cmpN (D.2.1 * T.2.2) (T.2.1 * D.2.2)) := by
    simp only [le_mk h1 h2]
    obtain ⟨b, n, d⟩ := T
    obtain ⟨b2, n2, d2⟩ := D
    show decide (¬ ((n2 : Int) * d ≤ sg b n * d2)) = if b = true then (if n ≠ 0 then true else decide (0 < cmpN (n2 * d) (n * d2))) else decide (0 < cmpN (n2 * d) (n * d2))
    have hd2 : d2 ≠ 0 := h1
    simp only [cmpN_gt]
    cases b
    · rw [if_neg (by decide), show sg false n = (n : Int) from rfl, ← Int.natCast_mul, ← Int.natCast_mul]
      simp only [decide_eq_decide]; omega
    · rw [if_pos rfl, show sg true n = -(n : Int) from rfl, Int.neg_mul, ← Int.natCast_mul, ← Int.natCast_mul]
      by_cases hn : n = 0
      · subst hn; rw [if_neg (by simp)]
        simp only [decide_eq_decide]; omega
      · rw [if_pos hn]
        have : 0 < n * d2 := Nat.mul_pos (Nat.pos_of_ne_zero hn) (Nat.pos_of_ne_zero hd2)
        simp only [decide_eq_true_eq]; omega
  rw [e]
  show Option.bind (if T.1 = true then (if 0 < ((List.length (digs T.2.1) : Nat) : Int) then some true else some _) else some _) f = _
  by_cases hb : T.1 = true
  · rw [if_pos hb, if_pos hb]
    by_cases hn : T.2.1 ≠ 0
    · rw [if_pos hn, if_pos (digs_pos_iff.2 hn)]; rfl
    · rw [if_neg hn, if_neg (mt digs_pos_iff.1 hn)]; rfl
  · rw [if_neg hb, if_neg hb]; rfl
theorem right3 {c p q : Rat} (hc : fits c) (hp : fits p) (hq : fits q) : (rightR (ofQ c) && (rightR (ofQ p) && rightR (ofQ q))) = true := by rw [ofQ_right hc, ofQ_right hp, ofQ_right hq]; rfl
/-- The difference, as the program holds it. -/
abbrev difQ (p q : Rat) : Q3 := plusN (q3 p) (!(q3 q).1, (q3 q).2.1, (q3 q).2.2)
theorem dif_val (p q : Rat) : valQ (difQ p q) = p - q ∧ (difQ p q).2.2 ≠ 0 := by
  have := plusN_rat (x := q3 p) (y := (!(q3 q).1, (q3 q).2.1, (q3 q).2.2)) (den_ne p) (den_ne q)
  rwa [less_val, valQ_of, valQ_of, ← Rat.sub_eq_add_neg] at this
theorem dif_sm {p q : Rat} (hp : fits p) (hq : fits q) : sm 65 (difQ p q) := plus_sm (sm_q hp) (less_sm (sm_q hq))
theorem tol_b {c a b : RT} (hc : okRB c = true) (ha : okRB a = true) (hb : okRB b = true) (h : (rightR c && (rightR a && rightR b)) = false) : rat_Tolerant c a b = some 0 := by
  unfold rat_Tolerant; rw [ratAll3 hc ha hb, h]; rfl
theorem tol_q {c p q : Rat} (hc : fits c) (hp : fits p) (hq : fits q) : rat_Tolerant (ofQ c) (ofQ p) (ofQ q) = some (tolR c p q) := by
  unfold rat_Tolerant
  have c1 := cross_q (sm_mono (sm_q hp) (by decide : 32 ≤ 4000)) (sm_mono (sm_q hq) (by decide : 32 ≤ 4000))
  have c2 := cross_q (sm_mono (sm_q hq) (by decide : 32 ≤ 4000)) (sm_mono (sm_q hp) (by decide : 32 ≤ 4000))
  have c3 := nCompare_eq (Nat.le_trans (cross_sm (sm_q hp) (sm_q hq)) (by decide)) (Nat.le_trans (cross_sm (sm_q hq) (sm_q hp)) (by decide))
  have c4 := plus_q (sm_mono (sm_q hp) (by decide : 32 ≤ 4000)) (less_sm (sm_mono (sm_q hq) (by decide : 32 ≤ 4000)))
  have each : ∀ m : Rat, fits m → ratTimes (qN (q3 c)) ((qN (q3 m)).1, false) = some (qN (timesN (q3 c) (false, m.num.natAbs, m.den))) ∧ sm 2000 (timesN (q3 c) (false, m.num.natAbs, m.den)) ∧ valQ (timesN (q3 c) (false, m.num.natAbs, m.den)) = c * absR m ∧ (timesN (q3 c) (false, m.num.natAbs, m.den)).2.2 ≠ 0 := fun m hm => by
    have hm' : sm 32 (false, m.num.natAbs, m.den) := hm
    have h1 := timesN_rat (x := q3 c) (y := (false, m.num.natAbs, m.den)) (den_ne c) m.den_nz
    rw [val_plain, valQ_of] at h1
    exact ⟨times_q (y := (false, m.num.natAbs, m.den)) (sm_mono (sm_q hc) (by decide)) (sm_mono hm' (by decide)), sm_mono (times_sm (sm_q hc) hm') (by decide), h1.1, h1.2⟩
  have hD := sm_mono (dif_sm hp hq) (by decide : 65 ≤ 2000)
  obtain ⟨dv, dn⟩ := dif_val p q
  have da : mkRat (difQ p q).2.1 (difQ p q).2.2 = absR (p - q) := by rw [← dv, abs_val dn]
  rw [ratAll3 (ofQ_okRB hc) (ofQ_okRB hp) (ofQ_okRB hq), right3 hc hp hq, Option.bind_some, if_pos rfl, ratOf_q, Option.bind_some, ratOf_q, Option.bind_some, less_q, Option.bind_some, c4, Option.bind_some, Option.bind_some, Option.bind_some, c1, Option.bind_some, Option.bind_some, c2, Option.bind_some, c3, Option.bind_some]
  have fin : ∀ m : Rat, maxA p q = absR m → (if decide (¬ mkRat (difQ p q).2.1 (difQ p q).2.2 ≤ valQ (timesN (q3 c) (false, m.num.natAbs, m.den))) = true then (rat_Compare (ofQ p) (ofQ q)).bind fun x => some x else some 0) = some (tolR c p q) := fun m e => by
    have hv := timesN_rat (x := q3 c) (y := (false, m.num.natAbs, m.den)) (den_ne c) m.den_nz
    rw [val_plain, valQ_of] at hv
    rw [da, hv.1, compare_q hp hq]
    have hw : within c p q ↔ absR (p - q) ≤ c * absR m := by unfold within; rw [e]
    unfold tolR
    by_cases h : absR (p - q) ≤ c * absR m
    · rw [if_neg (by simp [h]), if_pos (hw.2 h)]
    · rw [if_pos (by simp only [h, not_false_eq_true, decide_true]), if_neg (mt hw.1 h)]; rfl
  by_cases hlt : absR p < absR q
  · rw [if_pos (cmpN_lt.2 (abs_lt_iff.1 hlt)), Option.bind_some, ratOf_q, Option.bind_some]
    obtain ⟨t1, t2, t3, t4⟩ := each q hq
    rw [t1, Option.bind_some, apart_q hD t2 dn t4]
    exact fin q (if_pos hlt)
  · rw [if_neg (fun h => hlt (abs_lt_iff.2 (cmpN_lt.1 h))), ratOf_q, Option.bind_some]
    obtain ⟨t1, t2, t3, t4⟩ := each p hp
    rw [t1, Option.bind_some, apart_q hD t2 dn t4]
    exact fin p (if_neg hlt)
end Go.FL
/-
  Plain laws, rat 10: RatCompares, the reference's side and the law.
-/
namespace Go.FL
open Go Go.Proofs

theorem right3_eq {a b c : RT} (ha : okRB a = true) (hb : okRB b = true) (hc : okRB c = true) {β : Type} (f : Bool → Option β) :
    ((ref2Right a).bind fun x1 => (Option.bind ((if x1 = true then ((ref2Right b).bind fun x3 => (if x3 = true then ((ref2Right c).bind fun x4 => (some (!x4))) else (some true))) else (some true)) : Option (Bool)) f)) = f (!(rightR a && (rightR b && rightR c))) := by
  rw [ref2Right_eq ha, Option.bind_some, ref2Right_eq hb, Option.bind_some, ref2Right_eq hc, Option.bind_some]
  cases rightR a <;> cases rightR b <;> rfl
theorem ref_compare_b {a b : RT} (ha : okRB a = true) (hb : okRB b = true) (h : (rightR a && rightR b) = false) : ref02_Compare a b = some 0 := by
  unfold ref02_Compare
  rw [right2_eq ha hb, h]; rfl
theorem sign_dif (p q : Rat) : signN (p.num.natAbs * q.den) (decide (p.num < 0)) (q.num.natAbs * p.den) (!decide (q.num < 0)) = ((difQ p q).2.1, (difQ p q).1) ∧ (difQ p q).2.2 = p.den * q.den := by
  unfold difQ plusN signN
  constructor
  · show (if decide (p.num < 0) = (!decide (q.num < 0)) then _ else _) = ((if _ then _ else _ : Q3).2.1, (if _ then _ else _ : Q3).1)
    split
    · rfl
    · split <;> rfl
  · show (if _ then _ else _ : Q3).2.2 = _
    split
    · rfl
    · split <;> rfl
theorem dlen_zero {n : Nat} : ((List.length (digs n) : Nat) : Int) = 0 ↔ n = 0 := by
  have := digs_pos_iff (n := n)
  omega
theorem cmp_dif {p q : Rat} : cmpR p q = if (difQ p q).2.1 = 0 then 0 else if (difQ p q).1 = true then -1 else 1 := by
  obtain ⟨dv, dn⟩ := dif_val p q
  generalize difQ p q = D at *
  obtain ⟨b, n, d⟩ := D
  have dv' : mkRat (sg b n) d = p - q := dv
  have hd : d ≠ 0 := dn
  have h1 := le_mk (a := sg b n) (c := 0) (b := d) (d := 1) hd (by decide)
  have h2 := le_mk (a := 0) (c := sg b n) (b := 1) (d := d) (by decide) hd
  rw [dv'] at h1 h2
  have h3 : mkRat 0 1 = 0 := by rfl
  rw [h3] at h1 h2
  show cmpR p q = if n = 0 then 0 else if b = true then -1 else 1
  unfold cmpR
  have k1 : p < q ↔ sg b n < 0 := by
    have : p < q ↔ ¬ (0 ≤ p - q) := by grind
    rw [this, h2]; simp
  have k2 : p = q ↔ sg b n = 0 := by
    have : p = q ↔ (p - q ≤ 0 ∧ 0 ≤ p - q) := by
      constructor
      · rintro rfl; grind
      · intro h; grind
    rw [this, h1, h2]; simp; omega
  simp only [k1, k2]
  cases b
  · rw [show sg false n = (n : Int) from rfl, if_neg (by omega)]
    by_cases h : n = 0
    · rw [if_pos h, if_pos (by omega)]
    · rw [if_neg h, if_neg (by omega), if_neg (by decide)]
  · rw [show sg true n = -(n : Int) from rfl, if_pos (rfl : true = true)]
    by_cases h : n = 0
    · rw [if_pos h, if_neg (by omega), if_pos (by omega)]
    · rw [if_neg h, if_pos (by omega)]
theorem ref_compare_q {p q : Rat} (hp : fits p) (hq : fits q) : ref02_Compare (ofQ p) (ofQ q) = some (cmpR p q) := by
  unfold ref02_Compare
  have l1 : (digs (p.num.natAbs * q.den)).length ≤ 64 := len2 hp.1 hq.2
  have l2 : (digs (q.num.natAbs * p.den)).length ≤ 64 := len2 hq.1 hp.2
  have m1 : r1Mul (ofQ p).2.1 (ofQ q).2.2 = some (digs (p.num.natAbs * q.den)) := r1Mul_eq (Nat.le_trans hp.1 (by decide)) (Nat.le_trans hq.2 (by decide))
  have m2 : r1Mul (ofQ q).2.1 (ofQ p).2.2 = some (digs (q.num.natAbs * p.den)) := r1Mul_eq (Nat.le_trans hq.1 (by decide)) (Nat.le_trans hp.2 (by decide))
  have m4 : ref02_signed (digs (p.num.natAbs * q.den)) (ofQ p).1 (digs (q.num.natAbs * p.den)) (!(ofQ q).1) = some (digs (difQ p q).2.1, (difQ p q).1) := by
    have := signed_eq (decide (p.num < 0)) (!decide (q.num < 0)) (Nat.le_trans l1 (by decide)) (Nat.le_trans l2 (by decide))
    rw [(sign_dif p q).1] at this
    exact this
  rw [right2_eq (ofQ_okRB hp) (ofQ_okRB hq), two_right hp hq, if_neg (by decide), m1, Option.bind_some, m2, Option.bind_some, m4, Option.bind_some, cmp_dif]
  show (if ((List.length (digs (difQ p q).2.1) : Nat) : Int) = 0 then some 0 else if (difQ p q).1 = true then some (-1) else some 1) = _
  simp only [dlen_zero]
  split
  · rfl
  · split <;> rfl
theorem within_q {c p q m : Rat} (hc : fits c) (hp : fits p) (hq : fits q) (hm : fits m) (e : maxA p q = absR m) {β : Type} (f : Bool → Option β) :
    ((r1Mul (digs (difQ p q).2.1) (ofQ c).2.2).bind fun x12 => ((r1Mul x12 (ofQ m).2.2).bind fun x13 => ((r1Mul (ofQ c).2.1 (ofQ m).2.1).bind fun x14 => ((r1Mul x14 (digs (p.den * q.den))).bind fun x15 => (Option.bind ((if (ofQ c).1 = true then (if ((List.length (digs (difQ p q).2.1) : Nat) : Int) = 0 then (if ((List.length (ofQ m).2.1 : Nat) : Int) = 0 then (some true) else (if (ofQ c).1 = true then (if ((List.length x13 : Nat) : Int) = 0 then (some (decide (((List.length x15 : Nat) : Int) = 0))) else (some false)) else (some false))) else (if (ofQ c).1 = true then (if ((List.length x13 : Nat) : Int) = 0 then (some (decide (((List.length x15 : Nat) : Int) = 0))) else (some false)) else (some false))) else ((r1Compare x13 x15).bind fun x17 => (if x17 ≤ 0 then (some true) else (if ((List.length (digs (difQ p q).2.1) : Nat) : Int) = 0 then (if ((List.length (ofQ m).2.1 : Nat) : Int) = 0 then (some true) else (if (ofQ c).1 = true then (if ((List.length x13 : Nat) : Int) = 0 then (some (decide (((List.length x15 : Nat) : Int) = 0))) else (some false)) else (some false))) else (if (ofQ c).1 = true then (if ((List.length x13 : Nat) : Int) = 0 then (some (decide (((List.length x15 : Nat) : Int) = 0))) else (some false)) else (some false)))))) : Option (Bool)) f))))) = f (decide (within c p q)) := by
  obtain ⟨dv, dn⟩ := dif_val p q
  have da : mkRat (difQ p q).2.1 (difQ p q).2.2 = absR (p - q) := by rw [← dv, abs_val dn]
  have hd := (sign_dif p q).2
  rw [hd] at da dn
  have hS := (dif_sm hp hq).1
  generalize (difQ p q).2.1 = S at *
  have l1 : (digs (S * c.den)).length ≤ 400 := Nat.le_trans (len2 (k := 100) (Nat.le_trans hS (by decide)) (Nat.le_trans hc.2 (by decide))) (by decide)
  have l2 : (digs (S * c.den * m.den)).length ≤ 800 := Nat.le_trans (len2 (k := 400) l1 (Nat.le_trans hm.2 (by decide))) (by decide)
  have l3 : (digs (c.num.natAbs * m.num.natAbs)).length ≤ 64 := len2 hc.1 hm.1
  have l4 : (digs (p.den * q.den)).length ≤ 64 := len2 hp.2 hq.2
  have l5 : (digs (c.num.natAbs * m.num.natAbs * (p.den * q.den))).length ≤ 128 := len2 l3 l4
  have e1 : r1Mul (digs S) (ofQ c).2.2 = some (digs (S * c.den)) := r1Mul_eq (Nat.le_trans hS (by decide)) (Nat.le_trans hc.2 (by decide))
  have e2 : r1Mul (digs (S * c.den)) (ofQ m).2.2 = some (digs (S * c.den * m.den)) := r1Mul_eq (Nat.le_trans l1 (by decide)) (Nat.le_trans hm.2 (by decide))
  have e3 : r1Mul (ofQ c).2.1 (ofQ m).2.1 = some (digs (c.num.natAbs * m.num.natAbs)) := r1Mul_eq (Nat.le_trans hc.1 (by decide)) (Nat.le_trans hm.1 (by decide))
  have e4 : r1Mul (digs (c.num.natAbs * m.num.natAbs)) (digs (p.den * q.den)) = some (digs (c.num.natAbs * m.num.natAbs * (p.den * q.den))) := r1Mul_eq (Nat.le_trans l3 (by decide)) (Nat.le_trans l4 (by decide))
  have e5 := r1Compare_eq (Nat.le_trans l2 (by decide)) (Nat.le_trans l5 (by decide))
  rw [e1, Option.bind_some, e2, Option.bind_some, e3, Option.bind_some, e4, Option.bind_some, e5, Option.bind_some]
  show Option.bind (if decide (c.num < 0) = true then (if ((List.length (digs S) : Nat) : Int) = 0 then (if ((List.length (digs m.num.natAbs) : Nat) : Int) = 0 then (some true) else (if decide (c.num < 0) = true then (if ((List.length (digs (S * c.den * m.den)) : Nat) : Int) = 0 then (some (decide (((List.length (digs (c.num.natAbs * m.num.natAbs * (p.den * q.den))) : Nat) : Int) = 0))) else (some false)) else (some false))) else (if decide (c.num < 0) = true then (if ((List.length (digs (S * c.den * m.den)) : Nat) : Int) = 0 then (some (decide (((List.length (digs (c.num.natAbs * m.num.natAbs * (p.den * q.den))) : Nat) : Int) = 0))) else (some false)) else (some false))) else (if cmpN (S * c.den * m.den) (c.num.natAbs * m.num.natAbs * (p.den * q.den)) ≤ 0 then (some true) else (if ((List.length (digs S) : Nat) : Int) = 0 then (if ((List.length (digs m.num.natAbs) : Nat) : Int) = 0 then (some true) else (if decide (c.num < 0) = true then (if ((List.length (digs (S * c.den * m.den)) : Nat) : Int) = 0 then (some (decide (((List.length (digs (c.num.natAbs * m.num.natAbs * (p.den * q.den))) : Nat) : Int) = 0))) else (some false)) else (some false))) else (if decide (c.num < 0) = true then (if ((List.length (digs (S * c.den * m.den)) : Nat) : Int) = 0 then (some (decide (((List.length (digs (c.num.natAbs * m.num.natAbs * (p.den * q.den))) : Nat) : Int) = 0))) else (some false)) else (some false))))) f = f (decide (within c p q))
  simp only [dlen_zero, cmpN_le, decide_eq_true_eq]
  have hw : within c p q ↔ ((S : Int) * (c.den * m.den : Nat) ≤ (c.num * m.num.natAbs) * ((p.den * q.den : Nat) : Int)) := by
    unfold within
    have hv := timesN_rat (x := q3 c) (y := (false, m.num.natAbs, m.den)) (den_ne c) m.den_nz
    rw [val_plain, valQ_of] at hv
    rw [e, ← da, ← hv.1, le_mk dn hv.2]
    show (S : Int) * ((c.den * m.den : Nat) : Int) ≤ sg (decide (c.num < 0) != false) (c.num.natAbs * m.num.natAbs) * ((p.den * q.den : Nat) : Int) ↔ _
    rw [Bool.bne_false, sg_mul, num_sg]
  have cd := c.den_nz
  have md := m.den_nz
  have hcm : 0 < c.den * m.den := Nat.mul_pos (Nat.pos_of_ne_zero cd) (Nat.pos_of_ne_zero md)
  have hdd : 0 < p.den * q.den := Nat.pos_of_ne_zero dn
  by_cases hneg : c.num < 0
  · rw [if_pos hneg]
    simp only [if_pos hneg]
    have hcn : 0 < c.num.natAbs := by omega
    have hw2 : within c p q ↔ S = 0 ∧ m.num.natAbs = 0 := by
      rw [hw]
      constructor
      · intro h
        have h1 : (0 : Int) ≤ (S : Int) * (c.den * m.den : Nat) := Int.mul_nonneg (by omega) (by omega)
        have h2 : c.num * m.num.natAbs * ((p.den * q.den : Nat) : Int) ≤ 0 := Int.mul_nonpos_of_nonpos_of_nonneg (Int.mul_nonpos_of_nonpos_of_nonneg (by omega) (by omega)) (by omega)
        constructor
        · have h3 : (S : Int) * (c.den * m.den : Nat) = 0 := by omega
          rcases Int.mul_eq_zero.1 h3 with h4 | h4
          · omega
          · omega
        · have h3 : c.num * m.num.natAbs * ((p.den * q.den : Nat) : Int) = 0 := by omega
          rcases Int.mul_eq_zero.1 h3 with h4 | h4
          · rcases Int.mul_eq_zero.1 h4 with h5 | h5
            · omega
            · omega
          · omega
      · rintro ⟨h1, h2⟩
        rw [h1, h2]; simp
    by_cases hS0 : S = 0
    · rw [if_pos hS0]
      by_cases hm0 : m.num.natAbs = 0
      · rw [if_pos hm0, decide_eq_true (hw2.2 ⟨hS0, hm0⟩)]; rfl
      · rw [if_neg hm0, if_pos (by rw [hS0]; simp), decide_eq_false (fun h => hm0 (hw2.1 h).2), decide_eq_false]
        · rfl
        · intro h
          rcases Nat.mul_eq_zero.1 h with h | h
          · rcases Nat.mul_eq_zero.1 h with h | h <;> omega
          · omega
    · rw [if_neg hS0, if_neg, decide_eq_false (fun h => hS0 (hw2.1 h).1)]
      · rfl
      · intro h
        rcases Nat.mul_eq_zero.1 h with h | h
        · rcases Nat.mul_eq_zero.1 h with h | h <;> omega
        · omega
  · rw [if_neg hneg]
    simp only [if_neg hneg]
    have hw2 : within c p q ↔ S * c.den * m.den ≤ c.num.natAbs * m.num.natAbs * (p.den * q.den) := by
      rw [hw]
      have : c.num = (c.num.natAbs : Int) := by omega
      rw [this, ← Int.natCast_mul, ← Int.natCast_mul, ← Int.natCast_mul, Int.ofNat_le, Nat.mul_assoc S]
      simp
    by_cases hle : S * c.den * m.den ≤ c.num.natAbs * m.num.natAbs * (p.den * q.den)
    · rw [if_pos hle, decide_eq_true (hw2.2 hle)]; rfl
    · rw [if_neg hle, decide_eq_false (mt hw2.1 hle), if_neg (fun h => hle (by rw [h]; simp))]; rfl
theorem ref_tol_b {c a b : RT} (hc : okRB c = true) (ha : okRB a = true) (hb : okRB b = true) (h : (rightR c && (rightR a && rightR b)) = false) : ref02_Tolerant c a b = some 0 := by
  unfold ref02_Tolerant; rw [right3_eq hc ha hb, h]; rfl
theorem ref_tol_q {c p q : Rat} (hc : fits c) (hp : fits p) (hq : fits q) : ref02_Tolerant (ofQ c) (ofQ p) (ofQ q) = some (tolR c p q) := by
  unfold ref02_Tolerant
  have l1 : (digs (p.num.natAbs * q.den)).length ≤ 64 := len2 hp.1 hq.2
  have l2 : (digs (q.num.natAbs * p.den)).length ≤ 64 := len2 hq.1 hp.2
  have m1 : r1Mul (ofQ p).2.1 (ofQ q).2.2 = some (digs (p.num.natAbs * q.den)) := r1Mul_eq (Nat.le_trans hp.1 (by decide)) (Nat.le_trans hq.2 (by decide))
  have m2 : r1Mul (ofQ q).2.1 (ofQ p).2.2 = some (digs (q.num.natAbs * p.den)) := r1Mul_eq (Nat.le_trans hq.1 (by decide)) (Nat.le_trans hp.2 (by decide))
  have m3 : r1Mul (ofQ p).2.2 (ofQ q).2.2 = some (digs (p.den * q.den)) := r1Mul_eq (Nat.le_trans hp.2 (by decide)) (Nat.le_trans hq.2 (by decide))
  have m4 : ref02_signed (digs (p.num.natAbs * q.den)) (ofQ p).1 (digs (q.num.natAbs * p.den)) (!(ofQ q).1) = some (digs (difQ p q).2.1, (difQ p q).1) := by
    have := signed_eq (decide (p.num < 0)) (!decide (q.num < 0)) (Nat.le_trans l1 (by decide)) (Nat.le_trans l2 (by decide))
    rw [(sign_dif p q).1] at this
    exact this
  have m5 := r1Compare_eq (Nat.le_trans l1 (by decide)) (Nat.le_trans l2 (by decide))
  rw [right3_eq (ofQ_okRB hc) (ofQ_okRB hp) (ofQ_okRB hq), right3 hc hp hq, if_neg (by decide), m1, Option.bind_some, m2, Option.bind_some, m4, Option.bind_some, m3, Option.bind_some, Option.bind_some, Option.bind_some, m5, Option.bind_some, ref_compare_q hp hq]
  have fin : ∀ {b : Bool}, b = decide (within c p q) → (if b = true then some 0 else (some (cmpR p q)).bind fun x => some x) = some (tolR c p q) := by
    rintro _ rfl
    unfold tolR
    by_cases h : within c p q
    · rw [if_pos (decide_eq_true h), if_pos h]
    · rw [if_neg (by simp [h]), if_neg h]; rfl
  by_cases hlt : absR p < absR q
  · rw [if_pos (cmpN_lt.2 (abs_lt_iff.1 hlt)), within_q hc hp hq hq (if_pos hlt)]
    exact fin rfl
  · rw [if_neg (fun h => hlt (abs_lt_iff.2 (cmpN_lt.1 h))), within_q hc hp hq hp (if_neg hlt)]
    exact fin rfl
theorem tol_same {c a b : RT} (hc : okRB c = true) (ha : okRB a = true) (hb : okRB b = true) : ∃ n, rat_Tolerant c a b = some n ∧ ref02_Tolerant c a b = some n := by
  by_cases h : (rightR c && (rightR a && rightR b)) = false
  · exact ⟨0, tol_b hc ha hb h, ref_tol_b hc ha hb h⟩
  · simp only [Bool.not_eq_false, Bool.and_eq_true] at h
    obtain ⟨p, hp, rfl⟩ := right_iff.1 h.1
    obtain ⟨q, hq, rfl⟩ := right_iff.1 h.2.1
    obtain ⟨s, hs, rfl⟩ := right_iff.1 h.2.2
    exact ⟨_, tol_q hp hq hs, ref_tol_q hp hq hs⟩
theorem cmp_swap (p q : Rat) : cmpR p q = 0 - cmpR q p := by
  unfold cmpR
  by_cases h : p < q
  · rw [if_pos h, if_neg (by grind), if_neg (by grind)]; rfl
  · rw [if_neg h]
    by_cases h2 : p = q
    · rw [if_pos h2, if_neg (by grind), if_pos h2.symm]; rfl
    · rw [if_neg h2, if_pos (by grind)]; rfl
theorem within_swap (c p q : Rat) : within c p q ↔ within c q p := by
  unfold within
  have h1 : absR (p - q) = absR (q - p) := by unfold absR; grind
  have h2 : maxA p q = maxA q p := by unfold maxA; grind
  rw [h1, h2]
theorem tol_swap (c p q : Rat) : tolR c p q = 0 - tolR c q p := by
  unfold tolR
  by_cases h : within c p q
  · rw [if_pos h, if_pos ((within_swap c p q).1 h)]; rfl
  · rw [if_neg h, if_neg (mt (within_swap c p q).2 h), cmp_swap]
theorem tol_zero (p q : Rat) : tolR 0 p q = cmpR p q := by
  unfold tolR
  by_cases h : within 0 p q
  · rw [if_pos h]
    unfold within at h
    have : p = q := by rw [Rat.zero_mul] at h; unfold absR at h; grind
    rw [cmp_eq.2 this]
  · rw [if_neg h]
theorem tol_vals (c p q : Rat) : tolR c p q = -1 ∨ tolR c p q = 0 ∨ tolR c p q = 1 := by
  unfold tolR; split
  · simp
  · exact cmpR_vals p q
theorem compare_same {a b : RT} (ha : okRB a = true) (hb : okRB b = true) : ∃ n, rat_Compare a b = some n ∧ ref02_Compare a b = some n ∧ rat_Compare b a = some (0 - n) ∧ (n = -1 ∨ n = 0 ∨ n = 1) := by
  rcases two_cases (a := a) (b := b) with h | ⟨p, q, hp, hq, rfl, rfl⟩
  · exact ⟨0, compare_b ha hb h, ref_compare_b ha hb h, compare_b hb ha (by rw [Bool.and_comm]; exact h), by simp⟩
  · exact ⟨_, compare_q hp hq, ref_compare_q hp hq, by rw [compare_q hq hp, cmp_swap], cmpR_vals p q⟩
theorem wrap_neg {n : Int} (h : n = -1 ∨ n = 0 ∨ n = 1) : IntKind.wrap .i64 (0 - n) = 0 - n := by
  rcases h with rfl | rfl | rfl <;> rfl
theorem lawCompares {c a b : RT} (hc : okRB c = true) (ha : okRB a = true) (hb : okRB b = true) : law02_RatCompares c a b = some true := by
  unfold law02_RatCompares
  obtain ⟨n, n1, n2, n3, n4⟩ := compare_same ha hb
  obtain ⟨m, m1, m2⟩ := tol_same hc ha hb
  have hsw : ∃ k, rat_Tolerant c b a = some k ∧ m = 0 - k ∧ (k = -1 ∨ k = 0 ∨ k = 1) := by
    by_cases h : (rightR c && (rightR a && rightR b)) = false
    · have h' : (rightR c && (rightR b && rightR a)) = false := by rw [Bool.and_comm (rightR b)]; exact h
      rw [tol_b hc ha hb h] at m1; cases m1
      exact ⟨0, tol_b hc hb ha h', rfl, by simp⟩
    · simp only [Bool.not_eq_false, Bool.and_eq_true] at h
      obtain ⟨p, hp, rfl⟩ := right_iff.1 h.1
      obtain ⟨q, hq, rfl⟩ := right_iff.1 h.2.1
      obtain ⟨s, hs, rfl⟩ := right_iff.1 h.2.2
      rw [tol_q hp hq hs] at m1; cases m1
      exact ⟨_, tol_q hp hs hq, tol_swap _ _ _, tol_vals _ _ _⟩
  obtain ⟨k, k1, k2, k3⟩ := hsw
  have h0 : ratOfInt 0 = some (ofQ 0) := ofInt_q (by decide) (by decide)
  have hz : rat_Tolerant (ofQ 0) a b = some n := by
    rcases two_cases (a := a) (b := b) with h | ⟨p, q, hp, hq, rfl, rfl⟩
    · rw [tol_b (ofQ_okRB fits_zero) ha hb (by rw [h, Bool.and_false])]
      rw [compare_b ha hb h] at n1; exact n1
    · rw [tol_q fits_zero hp hq, tol_zero, ← compare_q hp hq]; exact n1
  rw [live_eq, Option.bind_some, if_pos rfl, n1, Option.bind_some, n2, Option.bind_some, if_pos rfl, m1, Option.bind_some, m2, Option.bind_some, decide_eq_true (rfl : m = m), Option.bind_some, if_neg (by decide), Option.bind_some, n3, Option.bind_some,
    if_pos (by rw [wrap_neg (by omega)]; omega), Option.bind_some, k1, Option.bind_some, if_pos (by rw [wrap_neg k3]; exact k2), h0, Option.bind_some, hz, Option.bind_some, Option.bind_some, decide_eq_true (rfl : n = n)]
  rfl
end Go.FL
/-
  The statement RatComparesSaid: for every input the law gives true, and each argument reads as it read before.
-/
namespace Go.Proofs.Ytijibkhkoopgpaa.ratCompares
open Go.ChangeShapes Go.WideShapes Go.ChangeAt Go.RowKit Go.FL

theorem own : ownKnob Try.prog.godebug = none := by kernel_rfl
theorem laid : laidOutB Try.prog = true := by kernel_rfl
theorem params : ∀ t ∈ Try.f12.params.toList, Try.prog.readableRec t = true ∧ t < Try.prog.types.size := by
  intro t ht
  simp only [Try.params12, List.mem_cons, List.not_mem_nil, or_false] at ht
  rcases ht with rfl | rfl | rfl <;> exact ⟨by kernel_rfl, of_decide_eq_true (by kernel_rfl)⟩
set_option maxRecDepth 100000 in
theorem lifted (os : Os) (started : os.Started) (H : Type) (enc : TypeId × Value → H) :
    ReturnsInHanded {} Try.checked os 12 .any (Rows.ratComparesSpec.pre6 enc Try.prog Try.f12 Rows.ratComparesRow.domain false) (Rows.ratComparesSpec.post enc Try.prog Try.f12 false true false false) := by
  refine returnsInHanded_of_change_sized (C := Try.checked) own started (by kernel_rfl) Try.func12
    (ChangeSpec.witness6 (enc := enc) (C := Try.checked) false ⟨#[], #[.agg #[.bool false, .slice none 0 0, .slice none 0 0], .agg #[.bool false, .slice none 0 0, .slice none 0 0], .agg #[.bool false, .slice none 0 0, .slice none 0 0]], []⟩ 8 (by kernel_rfl) (by kernel_rfl) (by kernel_rfl) (by kernel_rfl)) ?_
  intro W base args ds gs before hval0 hW hcnd hsz _
  have hval : ∀ (j : Nat) t v, Try.f12.params[j]? = some t → args[j]? = some v → Value.okWide Try.prog W .any base t v := hval0
  have hW' := hW
  obtain ⟨p, q, hA0, hV, rfl, hfz, hnd⟩ := hW
  have hA : DataW.TrodAll enc Try.prog W 0 (fun _ => true) true Try.f12.params.toList args.toList ds p := hA0
  rw [Try.params12] at hA hval
  obtain ⟨v0, vs0, d0, ds0, p0, q0, hargs, rfl, rfl, h0, r0⟩ := trodAll_cons hA
  obtain ⟨v1, vs1, d1, ds1, p1, q1, rfl, rfl, rfl, h1, r1⟩ := trodAll_cons r0
  obtain ⟨v2, vs2, d2, ds2, p2, q2, rfl, rfl, rfl, h2, r2⟩ := trodAll_cons r1
  obtain ⟨rfl, rfl, rfl⟩ := trodAll_nil r2
  obtain rfl : args = #[v0, v1, v2] := by cases args; simp_all
  obtain ⟨rfl, rfl⟩ := trodVars_none hV
  rw [Try.params12] at hsz
  have w0 : ∀ m ∈ DataW.weights Try.prog 25 d0, m ≤ reachBytes := fun m hm => by simpa using List.all_eq_true.1 hsz m (DataW.weights_mem_each (j := 0) rfl rfl m hm)
  obtain ⟨a0, o0, e0⟩ := arg_agg (v := v0) op_rat (let ⟨cs, h, _⟩ := okWide_struct (P := Try.prog) Try.underlying25 (hval 0 25 v0 rfl rfl); ⟨cs, h⟩) h0 w0
  have w1 : ∀ m ∈ DataW.weights Try.prog 25 d1, m ≤ reachBytes := fun m hm => by simpa using List.all_eq_true.1 hsz m (DataW.weights_mem_each (j := 1) rfl rfl m hm)
  obtain ⟨a1, o1, e1⟩ := arg_agg (v := v1) op_rat (let ⟨cs, h, _⟩ := okWide_struct (P := Try.prog) Try.underlying25 (hval 1 25 v1 rfl rfl); ⟨cs, h⟩) h1 w1
  have w2 : ∀ m ∈ DataW.weights Try.prog 25 d2, m ≤ reachBytes := fun m hm => by simpa using List.all_eq_true.1 hsz m (DataW.weights_mem_each (j := 2) rfl rfl m hm)
  obtain ⟨a2, o2, e2⟩ := arg_agg (v := v2) op_rat (let ⟨cs, h, _⟩ := okWide_struct (P := Try.prog) Try.underlying25 (hval 2 25 v2 rfl rfl); ⟨cs, h⟩) h2 w2
  refine (law_calls (law02_RatCompares_ok (lawCompares o0 o1 o2)) (.cons e0 (.cons e1 (.cons e2 .nil)))).mono fun e W' ⟨he, hb⟩ => ?_
  subst he
  exact ⟨_, rfl, post_law hW' rfl (fun _ => rfl) rfl Try.underlying4 laid params hb⟩

theorem over : Rows.ratComparesRow.holds Try.pinned (OpenSpec.ofChange Rows.ratComparesSpec) :=
  OpenClaim.holds_of_wide 12 Try.f12 rfl rfl rfl rfl rfl rfl rfl ⟨rfl, rfl, rfl, rfl, rfl⟩ rfl rfl rfl rfl rfl (by kernel_rfl) Try.func12 (by kernel_rfl)
    (of_decide_eq_true (by kernel_rfl)) (by unfold Func.isWrapper; first | (rw [if_pos (by decide +kernel)]; kernel_rfl) | (rw [if_neg (by decide +kernel)]; exact ⟨rfl, rfl⟩))
    (fun os started H enc _ => lifted os started H enc)

theorem proved : Rows.RatComparesSaid :=
  over
end Go.Proofs.Ytijibkhkoopgpaa.ratCompares
