/-
  The law: its function printed as a pure function, its contract, the plain law, the statement
-/
import Derived.Test.YtijibkhkoopgpaaRdE
import Derived.Test.YtijibkhkoopgpaaRows
set_option linter.unusedVariables false
/-
  GP: the law RatMakes.
-/
namespace Go.FL
open Go Go.Proofs

end Go.FL
/-
  GP: the law RatReckons.
-/
namespace Go.FL
open Go Go.Proofs

end Go.FL
/-
  GP: the law RatOrders.
-/
namespace Go.FL
open Go Go.Proofs

end Go.FL
/-
  GP: the law RatRounds.
-/
namespace Go.FL
open Go Go.Proofs

end Go.FL
/-
  Plain laws, rat 7: RatMakes, RatReckons, RatOrders, RatRounds.
-/
namespace Go.FL
open Go Go.Proofs

theorem ref2Same_eq {a c : RT} (h1 : a.2.1.length ≤ 35184372087808) (h2 : a.2.2.length ≤ 35184372087808) : ref2Same a c = some (decide (a = c)) := if_pos (by rw [decide_eq_true h1, decide_eq_true h2]; rfl)
theorem ref2Same_self {a : RT} (ha : okRB a = true) : ref2Same a a = some true := by
  obtain ⟨_, _, h1, h2⟩ := okRB_iff.1 ha
  rw [ref2Same_eq h1 h2]; simp
theorem cmp_le {p q : Rat} : cmpR p q ≤ 0 ↔ p ≤ q := by
  unfold cmpR
  by_cases h : p < q
  · rw [if_pos h]; simp [Rat.le_of_lt h]
  · rw [if_neg h]
    have h' := Rat.not_lt.1 h
    by_cases h2 : p = q
    · rw [if_pos h2]; simp [h2, Rat.le_refl]
    · rw [if_neg h2]
      constructor
      · intro h3; omega
      · intro h3; exact absurd (Rat.le_antisymm h3 h') h2
theorem cmp_eq {p q : Rat} : cmpR p q = 0 ↔ p = q := by
  unfold cmpR
  by_cases h : p < q
  · rw [if_pos h]; constructor
    · intro h; omega
    · rintro rfl; exact absurd h Rat.lt_irrefl
  · rw [if_neg h]
    by_cases h2 : p = q
    · rw [if_pos h2]; simp [h2]
    · rw [if_neg h2]; simp [h2]
theorem cmp_lt {p q : Rat} : cmpR p q < 0 ↔ p < q := by
  unfold cmpR
  by_cases h : p < q
  · rw [if_pos h]; simp [h]
  · rw [if_neg h]
    by_cases h2 : p = q
    · rw [if_pos h2]; simp [h]
    · rw [if_neg h2]; simp [h]
end Go.FL
/-
  GP: the law RatBack.
-/
namespace Go.FL
open Go Go.Proofs

end Go.FL
/-
  GP: the law RatResidues.
-/
namespace Go.FL
open Go Go.Proofs

def law02_RatResidues (a0 : RT) (a1 : RT) : Option (Bool) := ((rat_Residue a0 a1).bind fun x1 => (Option.bind ((if x1.2 = 0 then ((rat_Sign a0).bind fun x3 => (some (decide (x3 = 0)))) else (some true)) : Option (Bool)) fun (z2 : Bool) => (if z2 = true then (law02_live.bind fun x4 => (Option.bind ((if x4 = true then (if x1.2 = 0 then ((ref2Same x1.1 a1).bind fun x6 => (some x6)) else (some true)) else (some false)) : Option (Bool)) fun (z4 : Bool) => (some (z4)))) else ((rat_Sign a0).bind fun x7 => (if 0 < x7 then (law02_live.bind fun x8 => (Option.bind ((if x8 = true then ((rat_Sign x1.1).bind fun x10 => (if 0 ≤ x10 then ((rat_Compare x1.1 a0).bind fun x11 => (some (decide (x11 < 0)))) else (some false))) else (some false)) : Option (Bool)) fun (z8 : Bool) => (some (z8)))) else (law02_live.bind fun x12 => (Option.bind ((if x12 = true then ((rat_Sign x1.1).bind fun x14 => (if x14 ≤ 0 then ((rat_Compare x1.1 a0).bind fun x15 => (some (decide (0 < x15)))) else (some false))) else (some false)) : Option (Bool)) fun (z12 : Bool) => (some (z12)))))))))
theorem law02_RatResidues_ok {a0 : RT} {a1 : RT} {r : Bool} (h : law02_RatResidues a0 a1 = some r) :
    Fn Try.prog 14 [.ag [.b a0.1, .sl (L a0.2.1), .sl (L a0.2.2)], .ag [.b a1.1, .sl (L a1.2.1), .sl (L a1.2.2)]] (.d (.b r)) := by
  unfold law02_RatResidues at h
  refine Fn.of (rs := [.tmp 4]) (nt := 57) Try.func14 rfl rfl rfl (by simp) rfl ?_
  refine .seq ?_
  refine .region ?_
  refine vk (vbx) ?_
  refine vk (vbx) ?_
  refine asd ?_
  refine rn ?_
  refine .gh (Gh.keep [2, 3, 4] rfl) ?_
  refine .seq ?_
  refine .region ?_
  refine vk (vlda gA_R gS_R) ?_
  refine vk (vlda gA_R gS_R) ?_
  obtain ⟨x1, hx1, h⟩ := bnd h
  refine vk (VOK.tupd (vs := [.ag [.b x1.1.1, .sl (L x1.1.2.1), .sl (L x1.1.2.2)], .i .i64 x1.2]) (vcl0 (rat_Residue_ok hx1) Try.call58)) ?_
  refine vk (vmvd) ?_
  refine vk (vex) ?_
  refine vk (vex) ?_
  refine vk (van (zero_of gI_R) gZ_R) ?_
  refine stn ?_ gS_R (by decide)
  refine asd ?_
  refine rn ?_
  refine .gh (Gh.keep [2, 3, 4, 5, 6] rfl) ?_
  refine .seq ?_
  refine .seq ?_
  obtain ⟨z2, hz, h⟩ := bnd h
  refine AW.mr (σ := Unit) (fun _ => True) (fun _ => [(2, .d (.ptr [.b a0.1, .sl (L a0.2.1), .sl (L a0.2.2)])), (3, .d (.ptr [.b a1.1, .sl (L a1.2.1), .sl (L a1.2.2)])), (4, .d (.b false)), (5, .nb [.b x1.1.1, .sl (L x1.1.2.1), .sl (L x1.1.2.2)]), (6, .d (.i .i64 x1.2)), (19, .d (.b z2))]) (fun _ => []) ?_ ?_
  · skip
    refine .region ?_
    refine vk (vmvd) ?_
    refine vk (vbi) ?_
    by_cases hc : x1.2 = 0
    · replace hz := ite_t hc hz
      have hb0 : (!(decide (x1.2 = 0))) = false := (ntf (decide_eq_true hc))
      refine vk (VOK.lit (vmvd) hb0) ?_
      refine vk (vlda gA_R gS_R) ?_
      obtain ⟨x3, hx3, hz⟩ := bnd hz
      refine vk (vcl0 (rat_Sign_ok hx3) Try.call30) ?_
      refine vk (vbi) ?_
      refine vk (vpkd) ?_
      refine RL.gh (Gh.keep [2, 3, 4, 5, 6, 19] rfl) ?_
      refine .nil ?_
      cases hz
      exact jr () trivial
    replace hz := ite_f hc hz
    have hb0 : (!(decide (x1.2 = 0))) = true := (ntt (decide_eq_false hc))
    refine vk (VOK.lit (vmvd) hb0) ?_
    refine gf ?_
    refine gf ?_
    refine gf ?_
    refine vk (vpkd) ?_
    refine RL.gh (Gh.keep [2, 3, 4, 5, 6, 19] rfl) ?_
    refine .nil ?_
    cases hz
    exact jr () trivial
  rintro _ _
  by_cases hc : z2 = true
  · replace h := ite_t hc h
    refine cnt hc ?_
    refine .seq ?_
    obtain ⟨x4, hx4, h⟩ := bnd h
    obtain ⟨z4, hz, h⟩ := bnd h
    refine AW.mr (σ := Unit) (fun _ => True) (fun _ => [(2, .d (.ptr [.b a0.1, .sl (L a0.2.1), .sl (L a0.2.2)])), (4, .d (.b z4)), (5, .nb [.b x1.1.1, .sl (L x1.1.2.1), .sl (L x1.1.2.2)])]) (fun _ => []) ?_ ?_
    · skip
      refine .region ?_
      refine vk (vcl0 (law02_live_ok hx4) Try.call15) ?_
      by_cases hc : x4 = true
      · replace hz := ite_t hc hz
        have hb0 : x4 = true := hc
        refine vk (VOK.lit (vmvd) hb0) ?_
        refine vk (vmvd) ?_
        refine vk (vbi) ?_
        by_cases hc : x1.2 = 0
        · replace hz := ite_t hc hz
          have hb1 : (!(decide (x1.2 = 0))) = false := (ntf (decide_eq_true hc))
          refine vk (VOK.lit (vmvd) hb1) ?_
          refine vk (vldn gA_R gS_R) ?_
          refine vk (vlda gA_R gS_R) ?_
          obtain ⟨x6, hx6, hz⟩ := bnd hz
          refine vk (vcl0 (ref2Same_ok hx6) Try.call25) ?_
          refine vk (vpkd) ?_
          refine vk (vpkd) ?_
          refine asd ?_
          refine RL.gh (Gh.keep [2, 4, 5] rfl) ?_
          refine .nil ?_
          cases hz
          exact jr () trivial
        replace hz := ite_f hc hz
        have hb1 : (!(decide (x1.2 = 0))) = true := (ntt (decide_eq_false hc))
        refine vk (VOK.lit (vmvd) hb1) ?_
        refine gf ?_
        refine gf ?_
        refine gf ?_
        refine vk (vpkd) ?_
        refine vk (vpkd) ?_
        refine asd ?_
        refine RL.gh (Gh.keep [2, 4, 5] rfl) ?_
        refine .nil ?_
        cases hz
        exact jr () trivial
      replace hz := ite_f hc hz
      have hb0 : x4 = false := (bf hc)
      refine vk (VOK.lit (vmvd) hb0) ?_
      refine gf ?_
      refine gf ?_
      refine gfu ?_
      refine gf ?_
      refine gf ?_
      refine gf ?_
      refine gf ?_
      refine vk (vpkd) ?_
      refine asd ?_
      refine RL.gh (Gh.keep [2, 4, 5] rfl) ?_
      refine .nil ?_
      cases hz
      exact jr () trivial
    rintro _ _
    refine .ret ?_
    cases h
    exact ⟨rfl, rfl⟩
  replace h := ite_f hc h
  refine cnf (bf hc) ?_
  refine .skip ?_
  show AW _ _ _ _ _ _
  refine .seq ?_
  refine .seq ?_
  refine .region ?_
  refine vk (vlda gA_R gS_R) ?_
  obtain ⟨x7, hx7, h⟩ := bnd h
  refine vk (vcl0 (rat_Sign_ok hx7) Try.call30) ?_
  refine vk (vbi) ?_
  refine rn ?_
  refine .gh (Gh.keep [2, 4, 5, 32] rfl) ?_
  by_cases hc : 0 < x7
  · replace h := ite_t hc h
    refine cnt (decide_eq_true hc) ?_
    refine .seq ?_
    obtain ⟨x8, hx8, h⟩ := bnd h
    obtain ⟨z8, hz, h⟩ := bnd h
    refine AW.mr (σ := Unit) (fun _ => True) (fun _ => [(2, .d (.ptr [.b a0.1, .sl (L a0.2.1), .sl (L a0.2.2)])), (4, .d (.b z8)), (5, .nb [.b x1.1.1, .sl (L x1.1.2.1), .sl (L x1.1.2.2)])]) (fun _ => []) ?_ ?_
    · skip
      refine .region ?_
      refine vk (vcl0 (law02_live_ok hx8) Try.call15) ?_
      by_cases hc : x8 = true
      · replace hz := ite_t hc hz
        have hb0 : x8 = true := hc
        refine vk (VOK.lit (vmvd) hb0) ?_
        refine vk (vldn gA_R gS_R) ?_
        obtain ⟨x10, hx10, hz⟩ := bnd hz
        refine vk (vcl0 (rat_Sign_ok hx10) Try.call30) ?_
        refine vk (vbi) ?_
        refine vk (vpkd) ?_
        by_cases hc : 0 ≤ x10
        · replace hz := ite_t hc hz
          have hb1 : (decide (0 ≤ x10)) = true := (decide_eq_true hc)
          refine vk (VOK.lit (vmvd) hb1) ?_
          refine vk (vldn gA_R gS_R) ?_
          refine vk (vlda gA_R gS_R) ?_
          obtain ⟨x11, hx11, hz⟩ := bnd hz
          refine vk (vcl0 (rat_Compare_ok hx11) Try.call38) ?_
          refine vk (vbi) ?_
          refine vk (vpkd) ?_
          refine asd ?_
          refine RL.gh (Gh.keep [2, 4, 5] rfl) ?_
          refine .nil ?_
          cases hz
          exact jr () trivial
        replace hz := ite_f hc hz
        have hb1 : (decide (0 ≤ x10)) = false := (decide_eq_false hc)
        refine vk (VOK.lit (vmvd) hb1) ?_
        refine gf ?_
        refine gf ?_
        refine gf ?_
        refine gf ?_
        refine vk (vpkd) ?_
        refine asd ?_
        refine RL.gh (Gh.keep [2, 4, 5] rfl) ?_
        refine .nil ?_
        cases hz
        exact jr () trivial
      replace hz := ite_f hc hz
      have hb0 : x8 = false := (bf hc)
      refine vk (VOK.lit (vmvd) hb0) ?_
      refine gf ?_
      refine gf ?_
      refine gf ?_
      refine vk (vpkd) ?_
      refine vk (vmvd) ?_
      refine gf ?_
      refine gf ?_
      refine gf ?_
      refine gf ?_
      refine vk (vpkd) ?_
      refine asd ?_
      refine RL.gh (Gh.keep [2, 4, 5] rfl) ?_
      refine .nil ?_
      cases hz
      exact jr () trivial
    rintro _ _
    refine .ret ?_
    cases h
    exact ⟨rfl, rfl⟩
  replace h := ite_f hc h
  refine cnf (decide_eq_false hc) ?_
  refine .skip ?_
  show AW _ _ _ _ _ _
  refine .seq ?_
  obtain ⟨x12, hx12, h⟩ := bnd h
  obtain ⟨z12, hz, h⟩ := bnd h
  refine AW.mr (σ := Unit) (fun _ => True) (fun _ => [(4, .d (.b z12))]) (fun _ => []) ?_ ?_
  · skip
    refine .region ?_
    refine vk (vcl0 (law02_live_ok hx12) Try.call15) ?_
    by_cases hc : x12 = true
    · replace hz := ite_t hc hz
      have hb0 : x12 = true := hc
      refine vk (VOK.lit (vmvd) hb0) ?_
      refine vk (vldn gA_R gS_R) ?_
      obtain ⟨x14, hx14, hz⟩ := bnd hz
      refine vk (vcl0 (rat_Sign_ok hx14) Try.call30) ?_
      refine vk (vbi) ?_
      refine vk (vpkd) ?_
      by_cases hc : x14 ≤ 0
      · replace hz := ite_t hc hz
        have hb1 : (decide (x14 ≤ 0)) = true := (decide_eq_true hc)
        refine vk (VOK.lit (vmvd) hb1) ?_
        refine vk (vldn gA_R gS_R) ?_
        refine vk (vlda gA_R gS_R) ?_
        obtain ⟨x15, hx15, hz⟩ := bnd hz
        refine vk (vcl0 (rat_Compare_ok hx15) Try.call38) ?_
        refine vk (vbi) ?_
        refine vk (vpkd) ?_
        refine asd ?_
        refine RL.gh (Gh.keep [4] rfl) ?_
        refine .nil ?_
        cases hz
        exact jr () trivial
      replace hz := ite_f hc hz
      have hb1 : (decide (x14 ≤ 0)) = false := (decide_eq_false hc)
      refine vk (VOK.lit (vmvd) hb1) ?_
      refine gf ?_
      refine gf ?_
      refine gf ?_
      refine gf ?_
      refine vk (vpkd) ?_
      refine asd ?_
      refine RL.gh (Gh.keep [4] rfl) ?_
      refine .nil ?_
      cases hz
      exact jr () trivial
    replace hz := ite_f hc hz
    have hb0 : x12 = false := (bf hc)
    refine vk (VOK.lit (vmvd) hb0) ?_
    refine gf ?_
    refine gf ?_
    refine gf ?_
    refine vk (vpkd) ?_
    refine vk (vmvd) ?_
    refine gf ?_
    refine gf ?_
    refine gf ?_
    refine gf ?_
    refine vk (vpkd) ?_
    refine asd ?_
    refine RL.gh (Gh.keep [4] rfl) ?_
    refine .nil ?_
    cases hz
    exact jr () trivial
  rintro _ _
  refine .ret ?_
  cases h
  exact ⟨rfl, rfl⟩
end Go.FL
/-
  Plain laws, rat 8: RatBack, RatResidues.
-/
namespace Go.FL
open Go Go.Proofs

theorem cmp_gt {p q : Rat} : 0 < cmpR p q ↔ q < p := by
  rw [← Rat.not_le, ← cmp_le]; omega
theorem cmpR_ge {p q : Rat} : 0 ≤ cmpR p q ↔ q ≤ p := by
  rw [← Rat.not_lt, ← cmp_lt]; omega
/-- What Residue gives. -/
def modR (p q : Rat) : RT × Int := if p = 0 then (ofQ q, 0) else if fits (q / p) then (if fits ((q / p).floor : Rat) then (if fits (p * ((q / p).floor : Rat)) then resR (q - p * ((q / p).floor : Rat)) else bad 8) else bad 8) else bad 8
theorem residue_b {a b : RT} (ha : okRB a = true) (hb : okRB b = true) (h : (rightR a && rightR b) = false) : rat_Residue a b = some (bad 22) := by
  unfold rat_Residue; rw [ratAll2 ha hb, Option.bind_some, h, if_neg (by decide)]
theorem residue_q {p q : Rat} (hp : fits p) (hq : fits q) : rat_Residue (ofQ p) (ofQ q) = some (modR p q) := by
  unfold rat_Residue modR
  rw [ratAll2 (ofQ_okRB hp) (ofQ_okRB hq), two_right hp hq, Option.bind_some, if_pos rfl]
  by_cases h0 : p = 0
  · rw [if_pos h0, if_pos (num_zero.2 h0), copied_q hq, Option.bind_some]
    have e : (decide (q.num < 0) && decide (q ≠ 0)) = decide (q.num < 0) := by
      by_cases h : q = 0
      · subst h; rfl
      · rw [decide_eq_true (p := q ≠ 0) h, Bool.and_true]
    show some (((decide (q.num < 0) && decide (q ≠ 0)), _, _), _) = _
    rw [e]; rfl
  rw [if_neg h0, if_neg (fun h => h0 (num_zero.1 h)), div_q hq hp, if_neg h0, Option.bind_some]
  by_cases h1 : fits (q / p)
  · rw [if_pos h1, resR_fits h1, if_pos rfl, floor_q h1, Option.bind_some]
    by_cases h2 : fits ((q / p).floor : Rat)
    · rw [if_pos h2, resR_fits h2, if_pos rfl, mul2_q hp h2, Option.bind_some]
      by_cases h3 : fits (p * ((q / p).floor : Rat))
      · rw [if_pos h3, resR_fits h3, if_pos rfl, sub_q hq h3]; rfl
      · rw [if_neg h3, resR_not h3, if_neg (by decide)]
    · rw [if_neg h2, resR_not h2, if_neg (by decide), if_neg (by decide)]
  · rw [if_neg h1, resR_not h1, if_neg (by decide), if_neg (by decide), if_neg (by decide)]
theorem modR_spec {p q : Rat} (h : (modR p q).2 = 0) : (p = 0 ∧ modR p q = (ofQ q, 0)) ∨ (p ≠ 0 ∧ fits (q - p * ((q / p).floor : Rat)) ∧ modR p q = (ofQ (q - p * ((q / p).floor : Rat)), 0)) := by
  unfold modR at h ⊢
  by_cases h0 : p = 0
  · exact .inl ⟨h0, if_pos h0⟩
  · right
    rw [if_neg h0] at h ⊢
    by_cases h1 : fits (q / p)
    · rw [if_pos h1] at h ⊢
      by_cases h2 : fits ((q / p).floor : Rat)
      · rw [if_pos h2] at h ⊢
        by_cases h3 : fits (p * ((q / p).floor : Rat))
        · rw [if_pos h3] at h ⊢
          by_cases h4 : fits (q - p * ((q / p).floor : Rat))
          · exact ⟨h0, h4, resR_fits h4⟩
          · rw [resR_not h4] at h; exact absurd h (by decide)
        · rw [if_neg h3] at h; exact absurd h (by decide)
      · rw [if_neg h2] at h; exact absurd h (by decide)
    · rw [if_neg h1] at h; exact absurd h (by decide)
theorem mod_pos {p q : Rat} (h : 0 < p) : 0 ≤ q - p * ((q / p).floor : Rat) ∧ q - p * ((q / p).floor : Rat) < p := by
  have h1 : ((q / p).floor : Rat) ≤ q / p := Rat.floor_le _
  have h2 : q / p < ((q / p).floor : Rat) + 1 := by have := Rat.lt_floor_add_one (q / p); simpa using this
  generalize ((q / p).floor : Rat) = f at h1 h2
  have e : q / p * p = q := Rat.div_mul_cancel (Rat.ne_of_gt h)
  have h3 : f * p ≤ q := by rw [← e]; exact Rat.mul_le_mul_of_nonneg_right h1 (Rat.le_of_lt h)
  have h4 : q < (f + 1) * p := by
    have := Rat.mul_lt_mul_of_pos_right h2 h
    rwa [e] at this
  rw [Rat.add_mul, Rat.one_mul] at h4
  rw [Rat.mul_comm p f]
  constructor
  · grind
  · grind
theorem mod_neg {p q : Rat} (h : p < 0) : q - p * ((q / p).floor : Rat) ≤ 0 ∧ p < q - p * ((q / p).floor : Rat) := by
  have h1 := mod_pos (p := -p) (q := -q) (by grind)
  have e : -q / -p = q / p := by
    grind
  rw [e] at h1
  generalize ((q / p).floor : Rat) = f at h1
  constructor <;> grind
theorem lawResidues {a b : RT} (ha : okRB a = true) (hb : okRB b = true) : law02_RatResidues a b = some true := by
  unfold law02_RatResidues
  rcases two_cases (a := a) (b := b) with h | ⟨p, q, hp, hq, rfl, rfl⟩
  · rw [residue_b ha hb h, Option.bind_some, if_neg (by decide), Option.bind_some, if_pos rfl, live_eq, Option.bind_some, if_pos rfl, if_neg (by decide)]; rfl
  rw [residue_q hp hq, Option.bind_some]
  by_cases h : (modR p q).2 = 0
  · rw [if_pos h, sign_q hp, Option.bind_some, Option.bind_some]
    rcases modR_spec h with ⟨h0, e⟩ | ⟨h0, hf, e⟩
    · rw [if_pos (decide_eq_true (cmp_eq.2 h0)), live_eq, Option.bind_some, if_pos rfl, if_pos h, e, ref2Same_self hb]; rfl
    · rw [if_neg (by simp [mt cmp_eq.1 h0]), e, Option.bind_some]
      by_cases hs : 0 < cmpR p 0
      · have hpos := cmp_gt.1 hs
        obtain ⟨m1, m2⟩ := mod_pos (q := q) hpos
        rw [if_pos hs, live_eq, Option.bind_some, if_pos rfl, sign_q hf, Option.bind_some, if_pos (cmpR_ge.2 m1), compare_q hf hp, Option.bind_some, decide_eq_true (cmp_lt.2 m2)]; rfl
      · have hneg : p < 0 := by
          have := mt cmp_gt.2 hs
          have h3 := Rat.not_lt.1 this
          exact Rat.lt_of_le_of_ne h3 h0
        obtain ⟨m1, m2⟩ := mod_neg (q := q) hneg
        rw [if_neg hs, live_eq, Option.bind_some, if_pos rfl, sign_q hf, Option.bind_some, if_pos (cmp_le.2 m1), compare_q hf hp, Option.bind_some, decide_eq_true (cmp_gt.2 m2)]; rfl
  · rw [if_neg h, Option.bind_some, if_pos rfl, live_eq, Option.bind_some, if_pos rfl, if_neg h]; rfl
end Go.FL
/-
  The statement RatResiduesSaid: for every input the law gives true, and each argument reads as it read before.
-/
namespace Go.Proofs.Ytijibkhkoopgpaa.ratResidues
open Go.ChangeShapes Go.WideShapes Go.ChangeAt Go.RowKit Go.FL

theorem own : ownKnob Try.prog.godebug = none := by kernel_rfl
theorem laid : laidOutB Try.prog = true := by kernel_rfl
theorem params : ∀ t ∈ Try.f14.params.toList, Try.prog.readableRec t = true ∧ t < Try.prog.types.size := by
  intro t ht
  simp only [Try.params14, List.mem_cons, List.not_mem_nil, or_false] at ht
  rcases ht with rfl | rfl <;> exact ⟨by kernel_rfl, of_decide_eq_true (by kernel_rfl)⟩
set_option maxRecDepth 100000 in
theorem lifted (os : Os) (started : os.Started) (H : Type) (enc : TypeId × Value → H) :
    ReturnsInHanded {} Try.checked os 14 .any (Rows.ratResiduesSpec.pre6 enc Try.prog Try.f14 Rows.ratResiduesRow.domain false) (Rows.ratResiduesSpec.post enc Try.prog Try.f14 false true false false) := by
  refine returnsInHanded_of_change_sized (C := Try.checked) own started (by kernel_rfl) Try.func14
    (ChangeSpec.witness6 (enc := enc) (C := Try.checked) false ⟨#[], #[.agg #[.bool false, .slice none 0 0, .slice none 0 0], .agg #[.bool false, .slice none 0 0, .slice none 0 0]], []⟩ 8 (by kernel_rfl) (by kernel_rfl) (by kernel_rfl) (by kernel_rfl)) ?_
  intro W base args ds gs before hval0 hW hcnd hsz _
  have hval : ∀ (j : Nat) t v, Try.f14.params[j]? = some t → args[j]? = some v → Value.okWide Try.prog W .any base t v := hval0
  have hW' := hW
  obtain ⟨p, q, hA0, hV, rfl, hfz, hnd⟩ := hW
  have hA : DataW.TrodAll enc Try.prog W 0 (fun _ => true) true Try.f14.params.toList args.toList ds p := hA0
  rw [Try.params14] at hA hval
  obtain ⟨v0, vs0, d0, ds0, p0, q0, hargs, rfl, rfl, h0, r0⟩ := trodAll_cons hA
  obtain ⟨v1, vs1, d1, ds1, p1, q1, rfl, rfl, rfl, h1, r1⟩ := trodAll_cons r0
  obtain ⟨rfl, rfl, rfl⟩ := trodAll_nil r1
  obtain rfl : args = #[v0, v1] := by cases args; simp_all
  obtain ⟨rfl, rfl⟩ := trodVars_none hV
  rw [Try.params14] at hsz
  have w0 : ∀ m ∈ DataW.weights Try.prog 25 d0, m ≤ reachBytes := fun m hm => by simpa using List.all_eq_true.1 hsz m (DataW.weights_mem_each (j := 0) rfl rfl m hm)
  obtain ⟨a0, o0, e0⟩ := arg_agg (v := v0) op_rat (let ⟨cs, h, _⟩ := okWide_struct (P := Try.prog) Try.underlying25 (hval 0 25 v0 rfl rfl); ⟨cs, h⟩) h0 w0
  have w1 : ∀ m ∈ DataW.weights Try.prog 25 d1, m ≤ reachBytes := fun m hm => by simpa using List.all_eq_true.1 hsz m (DataW.weights_mem_each (j := 1) rfl rfl m hm)
  obtain ⟨a1, o1, e1⟩ := arg_agg (v := v1) op_rat (let ⟨cs, h, _⟩ := okWide_struct (P := Try.prog) Try.underlying25 (hval 1 25 v1 rfl rfl); ⟨cs, h⟩) h1 w1
  refine (law_calls (law02_RatResidues_ok (lawResidues o0 o1)) (.cons e0 (.cons e1 .nil))).mono fun e W' ⟨he, hb⟩ => ?_
  subst he
  exact ⟨_, rfl, post_law hW' rfl (fun _ => rfl) rfl Try.underlying4 laid params hb⟩

theorem over : Rows.ratResiduesRow.holds Try.pinned (OpenSpec.ofChange Rows.ratResiduesSpec) :=
  OpenClaim.holds_of_wide 14 Try.f14 rfl rfl rfl rfl rfl rfl rfl ⟨rfl, rfl, rfl, rfl, rfl⟩ rfl rfl rfl rfl rfl (by kernel_rfl) Try.func14 (by kernel_rfl)
    (of_decide_eq_true (by kernel_rfl)) (by unfold Func.isWrapper; first | (rw [if_pos (by decide +kernel)]; kernel_rfl) | (rw [if_neg (by decide +kernel)]; exact ⟨rfl, rfl⟩))
    (fun os started H enc _ => lifted os started H enc)

theorem proved : Rows.RatResiduesSaid :=
  over
end Go.Proofs.Ytijibkhkoopgpaa.ratResidues
