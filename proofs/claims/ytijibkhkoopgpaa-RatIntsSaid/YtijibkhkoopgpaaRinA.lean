/-
  The law: its function printed as a pure function, its contract, the plain law, the statement
-/
import Derived.Test.YtijibkhkoopgpaaReD
import Derived.Test.YtijibkhkoopgpaaRows
set_option linter.unusedVariables false
/-
  GP: the law RatMakes.
-/
namespace Go.FL
open Go Go.Proofs

end Go.FL
/-
  GP: the law RatReckons.
-/
namespace Go.FL
open Go Go.Proofs

end Go.FL
/-
  GP: the law RatOrders.
-/
namespace Go.FL
open Go Go.Proofs

end Go.FL
/-
  GP: the law RatRounds.
-/
namespace Go.FL
open Go Go.Proofs

end Go.FL
/-
  Plain laws, rat 7: RatMakes, RatReckons, RatOrders, RatRounds.
-/
namespace Go.FL
open Go Go.Proofs

theorem ref2Same_eq {a c : RT} (h1 : a.2.1.length ≤ 35184372087808) (h2 : a.2.2.length ≤ 35184372087808) : ref2Same a c = some (decide (a = c)) := if_pos (by rw [decide_eq_true h1, decide_eq_true h2]; rfl)
theorem ref2Same_self {a : RT} (ha : okRB a = true) : ref2Same a a = some true := by
  obtain ⟨_, _, h1, h2⟩ := okRB_iff.1 ha
  rw [ref2Same_eq h1 h2]; simp
end Go.FL
/-
  GP: the law RatBack.
-/
namespace Go.FL
open Go Go.Proofs

end Go.FL
/-
  GP: the law RatResidues.
-/
namespace Go.FL
open Go Go.Proofs

end Go.FL
/-
  Plain laws, rat 8: RatBack, RatResidues.
-/
namespace Go.FL
open Go Go.Proofs

end Go.FL
/-
  GP: the law RatCompares.
-/
namespace Go.FL
open Go Go.Proofs

end Go.FL
/-
  Plain laws, rat 9: RatCompares.
-/
namespace Go.FL
open Go Go.Proofs

def absR (p : Rat) : Rat := if p < 0 then -p else p
def maxA (p q : Rat) : Rat := if absR p < absR q then absR q else absR p
def within (c p q : Rat) : Prop := absR (p - q) ≤ c * maxA p q
instance (c p q : Rat) : Decidable (within c p q) := inferInstanceAs (Decidable (_ ≤ _))
end Go.FL
/-
  Plain laws, rat 10: RatCompares, the reference's side and the law.
-/
namespace Go.FL
open Go Go.Proofs

end Go.FL
/-
  GP: the law RatPowers.
-/
namespace Go.FL
open Go Go.Proofs

end Go.FL
/-
  Plain laws, rat 11: powers, RatPowers.
-/
namespace Go.FL
open Go Go.Proofs

end Go.FL
/-
  GP: the law TopField.
-/
namespace Go.FL
open Go Go.Proofs

end Go.FL
/-
  Plain laws, rat 12: printing a number, TopField.
-/
namespace Go.FL
open Go Go.Proofs

end Go.FL
/-
  GP: the law RatPascal.
-/
namespace Go.FL
open Go Go.Proofs

end Go.FL
/-
  Plain laws, rat 13: RatPascal.
-/
namespace Go.FL
open Go Go.Proofs

/-- The number of ways to choose. -/
def ch : Nat → Nat → Nat
  | _, 0 => 1
  | 0, _ + 1 => 0
  | n + 1, k + 1 => ch n k + ch n (k + 1)
theorem few {n : Nat} (h : n < 4294967296) (k : Nat) : (digs n).length ≤ k + 1 := Nat.le_trans (few_len h) (by omega)
end Go.FL
/-
  GP: the law RatInts.
-/
namespace Go.FL
open Go Go.Proofs

def law02_RatInts (a0 : Int) (a1 : RT) : Option (Bool) := ((ratToInt a1).bind fun x1 => ((ref02_ToInt a1).bind fun x2 => ((ratOfInt a0).bind fun x3 => ((ratToInt x3).bind fun x4 => (law02_live.bind fun x5 => (Option.bind ((if x5 = true then (if x1.1 = x2.1 then (if (x1.2 == x2.2) = true then (if x4.1 = a0 then (if x4.2 = true then ((ratOfInt a0).bind fun x7 => ((ref02_OfInt a0).bind fun x8 => ((ref2Same x7 x8).bind fun x9 => (if x9 = true then ((rat_Sign a1).bind fun x10 => ((ref02_Sign a1).bind fun x11 => (if x10 = x11 then ((rat_IsInt a1).bind fun x12 => ((ref02_IsInt a1).bind fun x13 => (some (x12 == x13)))) else (some false)))) else (some false))))) else (some false)) else (some false)) else (some false)) else (some false)) else (some false)) : Option (Bool)) fun (z5 : Bool) => (some (z5))))))))
set_option maxHeartbeats 4000000 in
theorem law02_RatInts_ok {a0 : Int} {a1 : RT} {r : Bool} (h : law02_RatInts a0 a1 = some r) :
    Fn Try.prog 5 [.i .i64 a0, .ag [.b a1.1, .sl (L a1.2.1), .sl (L a1.2.2)]] (.d (.b r)) := by
  unfold law02_RatInts at h
  refine Fn.of (rs := [.tmp 4]) (nt := 67) Try.func5 rfl rfl rfl (by simp) rfl ?_
  refine .seq ?_
  refine .region ?_
  refine vk (vbx) ?_
  refine asd ?_
  refine rn ?_
  refine .gh (Gh.keep [0, 3, 4] rfl) ?_
  refine .seq ?_
  refine .region ?_
  refine vk (vlda gA_R gS_R) ?_
  obtain ⟨x1, hx1, h⟩ := bnd h
  refine vk (VOK.tupd (vs := [.i .i64 x1.1, .b x1.2]) (vcl0 (ratToInt_ok hx1) Try.call26)) ?_
  refine vk (vmvd) ?_
  refine vk (vex) ?_
  refine vk (vex) ?_
  refine asd ?_
  refine asd ?_
  refine rn ?_
  refine .gh (Gh.keep [0, 3, 4, 5, 6] rfl) ?_
  refine .seq ?_
  refine .region ?_
  refine vk (vlda gA_R gS_R) ?_
  obtain ⟨x2, hx2, h⟩ := bnd h
  refine vk (VOK.tupd (vs := [.i .i64 x2.1, .b x2.2]) (vcl0 (ref02_ToInt_ok hx2) Try.call27)) ?_
  refine vk (vmvd) ?_
  refine vk (vex) ?_
  refine vk (vex) ?_
  refine asd ?_
  refine asd ?_
  refine rn ?_
  refine .gh (Gh.keep [0, 3, 4, 5, 6, 7, 8] rfl) ?_
  refine .seq ?_
  refine .region ?_
  refine vk (vmvd) ?_
  obtain ⟨x3, hx3, h⟩ := bnd h
  refine vk (vcl0 (ratOfInt_ok hx3) Try.call28) ?_
  obtain ⟨x4, hx4, h⟩ := bnd h
  refine vk (VOK.tupd (vs := [.i .i64 x4.1, .b x4.2]) (vcl0 (ratToInt_ok hx4) Try.call26)) ?_
  refine vk (vmvd) ?_
  refine vk (vex) ?_
  refine vk (vex) ?_
  refine asd ?_
  refine asd ?_
  refine rn ?_
  refine .gh (Gh.keep [0, 3, 4, 5, 6, 7, 8, 9, 10] rfl) ?_
  refine .seq ?_
  obtain ⟨x5, hx5, h⟩ := bnd h
  obtain ⟨z5, hz, h⟩ := bnd h
  refine AW.mr (σ := Unit) (fun _ => True) (fun _ => [(4, .d (.b z5))]) (fun _ => []) ?_ ?_
  · skip
    refine .drawn 40 mixed (by kernel_rfl) ?_
    refine dv (vcl0 (law02_live_ok hx5) Try.call15) ?_
    by_cases hc : x5 = true
    · replace hz := ite_t hc hz
      have hb0 : x5 = true := hc
      refine dv (VOK.lit (vmvd) hb0) ?_
      refine dv (vmvd) ?_
      refine dv (vmvd) ?_
      refine dv (vbi) ?_
      refine dv (vpkd) ?_
      by_cases hc : x1.1 = x2.1
      · replace hz := ite_t hc hz
        have hb1 : (decide (x1.1 = x2.1)) = true := (decide_eq_true hc)
        refine dv (VOK.lit (vmvd) hb1) ?_
        refine dv (vmvd) ?_
        refine dv (vmvd) ?_
        refine dv (vbbn (.inl rfl) bo) ?_
        refine dv (vpkd) ?_
        by_cases hc : (x1.2 == x2.2) = true
        · replace hz := ite_t hc hz
          have hb2 : (x1.2 == x2.2) = true := hc
          refine dv (VOK.lit (vmvd) hb2) ?_
          refine dv (vmvd) ?_
          refine dv (vmvd) ?_
          refine dv (vbi) ?_
          refine dv (vpkd) ?_
          by_cases hc : x4.1 = a0
          · replace hz := ite_t hc hz
            have hb3 : (decide (x4.1 = a0)) = true := (decide_eq_true hc)
            refine dv (VOK.lit (vmvd) hb3) ?_
            refine dv (vmvd) ?_
            refine dv (vpkd) ?_
            by_cases hc : x4.2 = true
            · replace hz := ite_t hc hz
              have hb4 : x4.2 = true := hc
              refine dv (VOK.lit (vmvd) hb4) ?_
              refine dv (vmvd) ?_
              obtain ⟨x7, hx7, hz⟩ := bnd hz
              refine dv (vcl0 (ratOfInt_ok hx7) Try.call28) ?_
              refine dv (vmvd) ?_
              obtain ⟨x8, hx8, hz⟩ := bnd hz
              refine dv (vcl0 (ref02_OfInt_ok hx8) Try.call29) ?_
              obtain ⟨x9, hx9, hz⟩ := bnd hz
              refine dv (vcl0 (ref2Same_ok hx9) Try.call25) ?_
              refine dv (vpkd) ?_
              by_cases hc : x9 = true
              · replace hz := ite_t hc hz
                have hb5 : x9 = true := hc
                refine dv (VOK.lit (vmvd) hb5) ?_
                refine dv (vlda gA_R gS_R) ?_
                obtain ⟨x10, hx10, hz⟩ := bnd hz
                refine dv (vcl0 (rat_Sign_ok hx10) Try.call30) ?_
                refine dv (vlda gA_R gS_R) ?_
                obtain ⟨x11, hx11, hz⟩ := bnd hz
                refine dv (vcl0 (ref02_Sign_ok hx11) Try.call31) ?_
                refine dv (vbi) ?_
                refine dv (vpkd) ?_
                by_cases hc : x10 = x11
                · replace hz := ite_t hc hz
                  have hb6 : (decide (x10 = x11)) = true := (decide_eq_true hc)
                  refine dv (VOK.lit (vmvd) hb6) ?_
                  refine dv (vlda gA_R gS_R) ?_
                  obtain ⟨x12, hx12, hz⟩ := bnd hz
                  refine dv (vcl0 (rat_IsInt_ok hx12) Try.call32) ?_
                  refine dv (vlda gA_R gS_R) ?_
                  obtain ⟨x13, hx13, hz⟩ := bnd hz
                  refine dv (vcl0 (ref02_IsInt_ok hx13) Try.call33) ?_
                  refine dv (vbbn (.inl rfl) bo) ?_
                  refine dv (vpkd) ?_
                  refine dz ?_
                  refine asd ?_
                  refine RL.gh (Gh.keep [4] rfl) ?_
                  refine .nil ?_
                  cases hz
                  exact jr () trivial
                replace hz := ite_f hc hz
                have hb6 : (decide (x10 = x11)) = false := (decide_eq_false hc)
                refine dv (VOK.lit (vmvd) hb6) ?_
                refine dgf ?_
                refine dgf ?_
                refine dgf ?_
                refine dgf ?_
                refine dgf ?_
                refine dv (vpkd) ?_
                refine dz ?_
                refine asd ?_
                refine RL.gh (Gh.keep [4] rfl) ?_
                refine .nil ?_
                cases hz
                exact jr () trivial
              replace hz := ite_f hc hz
              have hb5 : x9 = false := (bf hc)
              refine dv (VOK.lit (vmvd) hb5) ?_
              refine dgf ?_
              refine dgf ?_
              refine dgf ?_
              refine dgf ?_
              refine dgf ?_
              refine dv (vpkd) ?_
              refine dv (vmvd) ?_
              refine dgf ?_
              refine dgf ?_
              refine dgf ?_
              refine dgf ?_
              refine dgf ?_
              refine dv (vpkd) ?_
              refine dz ?_
              refine asd ?_
              refine RL.gh (Gh.keep [4] rfl) ?_
              refine .nil ?_
              cases hz
              exact jr () trivial
            replace hz := ite_f hc hz
            have hb4 : x4.2 = false := (bf hc)
            refine dv (VOK.lit (vmvd) hb4) ?_
            refine dgf ?_
            refine dgf ?_
            refine dgf ?_
            refine dgf ?_
            refine dgf ?_
            refine dv (vpkd) ?_
            refine dv (vmvd) ?_
            refine dgf ?_
            refine dgf ?_
            refine dgf ?_
            refine dgf ?_
            refine dgf ?_
            refine dv (vpkd) ?_
            refine dv (vmvd) ?_
            refine dgf ?_
            refine dgf ?_
            refine dgf ?_
            refine dgf ?_
            refine dgf ?_
            refine dv (vpkd) ?_
            refine dz ?_
            refine asd ?_
            refine RL.gh (Gh.keep [4] rfl) ?_
            refine .nil ?_
            cases hz
            exact jr () trivial
          replace hz := ite_f hc hz
          have hb3 : (decide (x4.1 = a0)) = false := (decide_eq_false hc)
          refine dv (VOK.lit (vmvd) hb3) ?_
          refine dgf ?_
          refine dv (vpkd) ?_
          refine dv (vmvd) ?_
          refine dgf ?_
          refine dgf ?_
          refine dgf ?_
          refine dgf ?_
          refine dgf ?_
          refine dv (vpkd) ?_
          refine dv (vmvd) ?_
          refine dgf ?_
          refine dgf ?_
          refine dgf ?_
          refine dgf ?_
          refine dgf ?_
          refine dv (vpkd) ?_
          refine dv (vmvd) ?_
          refine dgf ?_
          refine dgf ?_
          refine dgf ?_
          refine dgf ?_
          refine dgf ?_
          refine dv (vpkd) ?_
          refine dz ?_
          refine asd ?_
          refine RL.gh (Gh.keep [4] rfl) ?_
          refine .nil ?_
          cases hz
          exact jr () trivial
        replace hz := ite_f hc hz
        have hb2 : (x1.2 == x2.2) = false := (bf hc)
        refine dv (VOK.lit (vmvd) hb2) ?_
        refine dgf ?_
        refine dgf ?_
        refine dgf ?_
        refine dv (vpkd) ?_
        refine dv (vmvd) ?_
        refine dgf ?_
        refine dv (vpkd) ?_
        refine dv (vmvd) ?_
        refine dgf ?_
        refine dgf ?_
        refine dgf ?_
        refine dgf ?_
        refine dgf ?_
        refine dv (vpkd) ?_
        refine dv (vmvd) ?_
        refine dgf ?_
        refine dgf ?_
        refine dgf ?_
        refine dgf ?_
        refine dgf ?_
        refine dv (vpkd) ?_
        refine dv (vmvd) ?_
        refine dgf ?_
        refine dgf ?_
        refine dgf ?_
        refine dgf ?_
        refine dgf ?_
        refine dv (vpkd) ?_
        refine dz ?_
        refine asd ?_
        refine RL.gh (Gh.keep [4] rfl) ?_
        refine .nil ?_
        cases hz
        exact jr () trivial
      replace hz := ite_f hc hz
      have hb1 : (decide (x1.1 = x2.1)) = false := (decide_eq_false hc)
      refine dv (VOK.lit (vmvd) hb1) ?_
      refine dgf ?_
      refine dgf ?_
      refine dgf ?_
      refine dv (vpkd) ?_
      refine dv (vmvd) ?_
      refine dgf ?_
      refine dgf ?_
      refine dgf ?_
      refine dv (vpkd) ?_
      refine dv (vmvd) ?_
      refine dgf ?_
      refine dv (vpkd) ?_
      refine dv (vmvd) ?_
      refine dgf ?_
      refine dgf ?_
      refine dgf ?_
      refine dgf ?_
      refine dgf ?_
      refine dv (vpkd) ?_
      refine dv (vmvd) ?_
      refine dgf ?_
      refine dgf ?_
      refine dgf ?_
      refine dgf ?_
      refine dgf ?_
      refine dv (vpkd) ?_
      refine dv (vmvd) ?_
      refine dgf ?_
      refine dgf ?_
      refine dgf ?_
      refine dgf ?_
      refine dgf ?_
      refine dv (vpkd) ?_
      refine dz ?_
      refine asd ?_
      refine RL.gh (Gh.keep [4] rfl) ?_
      refine .nil ?_
      cases hz
      exact jr () trivial
    replace hz := ite_f hc hz
    have hb0 : x5 = false := (bf hc)
    refine dv (VOK.lit (vmvd) hb0) ?_
    refine dgf ?_
    refine dgf ?_
    refine dgf ?_
    refine dv (vpkd) ?_
    refine dv (vmvd) ?_
    refine dgf ?_
    refine dgf ?_
    refine dgf ?_
    refine dv (vpkd) ?_
    refine dv (vmvd) ?_
    refine dgf ?_
    refine dgf ?_
    refine dgf ?_
    refine dv (vpkd) ?_
    refine dv (vmvd) ?_
    refine dgf ?_
    refine dv (vpkd) ?_
    refine dv (vmvd) ?_
    refine dgf ?_
    refine dgf ?_
    refine dgf ?_
    refine dgf ?_
    refine dgf ?_
    refine dv (vpkd) ?_
    refine dv (vmvd) ?_
    refine dgf ?_
    refine dgf ?_
    refine dgf ?_
    refine dgf ?_
    refine dgf ?_
    refine dv (vpkd) ?_
    refine dv (vmvd) ?_
    refine dgf ?_
    refine dgf ?_
    refine dgf ?_
    refine dgf ?_
    refine dgf ?_
    refine dv (vpkd) ?_
    refine dz ?_
    refine asd ?_
    refine RL.gh (Gh.keep [4] rfl) ?_
    refine .nil ?_
    cases hz
    exact jr () trivial
  rintro _ _
  refine .ret ?_
  cases h
  exact ⟨rfl, rfl⟩
end Go.FL
/-
  Plain laws, rat 14: RatInts.
-/
namespace Go.FL
open Go Go.Proofs

theorem toInt_b {a : RT} (ha : okRB a = true) (h : rightR a = false) : ratToInt a = some (0, false) := by
  unfold ratToInt; rw [isInt_b ha h]; rfl
/-- What ToInt gives. -/
def intQ (p : Rat) : Int × Bool := if p.den = 1 then (if bitsN p.num.natAbs ≤ 64 then intV (decide (p.num < 0)) p.num.natAbs else (0, false)) else (0, false)
theorem toInt_q {p : Rat} (hp : fits p) : ratToInt (ofQ p) = some (intQ p) := by
  unfold ratToInt intQ
  rw [isInt_q hp, Option.bind_some]
  by_cases h : p.den = 1
  · have e : (ofQ p).2.1 = digs p.num.natAbs := rfl
    rw [if_pos (decide_eq_true h), if_pos h, e, val_digs, if_pos (by rw [okL_digs (Nat.le_trans hp.1 (by decide)), decide_eq_true rfl]; rfl)]; rfl
  · rw [if_neg (by simpa using h), if_neg h]
theorem ref_toInt_b {a : RT} (ha : okRB a = true) (h : rightR a = false) : ref02_ToInt a = some (0, false) := by
  unfold ref02_ToInt; rw [ref_isInt_eq ha, isInt_b ha h]; rfl
theorem digs_top : digs 9223372036854775808 = [0, 2147483648] := by decide +kernel
theorem ref_toInt_q {p : Rat} (hp : fits p) : ref02_ToInt (ofQ p) = some (intQ p) := by
  unfold ref02_ToInt intQ
  rw [ref_isInt_eq (ofQ_okRB hp), isInt_q hp, Option.bind_some]
  by_cases h : p.den = 1
  · have e : (ofQ p).2.1 = digs p.num.natAbs := rfl
    have e2 : (ofQ p).1 = decide (p.num < 0) := rfl
    rw [if_pos (decide_eq_true h), if_pos h, e, e2]
    have hl : (digs p.num.natAbs).length ≤ 32 := hp.1
    generalize decide (p.num < 0) = s
    generalize p.num.natAbs = n at *
    have h1 : r1Same (digs n) [0, 2147483648] = some (decide (n = 9223372036854775808)) := by
      unfold r1Same
      rw [if_pos (by omega), ← digs_top]
      congr 1
      exact decide_eq_decide.2 ⟨digs_inj, fun h => by rw [h]⟩
    have h2 : r1Small (digs n) = some (((if bitsN n ≤ 63 then n else 0 : Nat) : Int), decide (bitsN n ≤ 63)) := by
      unfold r1Small
      rw [if_pos (okL_digs (by omega)), smallN, val_digs]
    rw [h1, h2, Option.bind_some, Option.bind_some]
    have b63 : bitsN n ≤ 63 ↔ n < 9223372036854775808 := bitsN_iff
    have b64 : bitsN n ≤ 64 ↔ n < 18446744073709551616 := bitsN_iff
    simp only [b63, b64]
    unfold intV
    cases s
    · rw [if_neg (by decide), Option.bind_some, if_neg (by decide), if_neg (by decide)]
      by_cases h3 : n < 9223372036854775808
      · simp only [h3, if_true, decide_true, if_pos (show n < 18446744073709551616 by omega)]; rfl
      · simp only [h3, if_false, decide_false]
        split <;> rfl
    · rw [if_pos rfl, Option.bind_some, if_pos rfl, if_pos rfl]
      by_cases h4 : n = 9223372036854775808
      · subst h4; rfl
      · rw [if_neg (by simpa using h4)]
        by_cases h3 : n < 9223372036854775808
        · simp only [h3, if_true, decide_true, if_pos (show n < 18446744073709551616 by omega), if_pos (show n ≤ 9223372036854775808 by omega)]
          rw [show IntKind.wrap .i64 (0 - (n : Int)) = -(n : Int) from (w64_eq (by omega) (by omega)).trans (by omega)]
        · simp only [h3, if_false, decide_false, if_neg (show ¬ n ≤ 9223372036854775808 by omega)]
          split <;> rfl
  · rw [if_neg (by simpa using h), if_neg h]
theorem intQ_int {z : Int} (h1 : -9223372036854775808 ≤ z) (h2 : z ≤ 9223372036854775807) : intQ (z : Rat) = (z, true) := by
  unfold intQ
  rw [Rat.den_intCast, Rat.num_intCast, if_pos rfl, if_pos (bitsN_iff.2 (show z.natAbs < 2 ^ 64 by omega))]
  unfold intV
  by_cases h : z < 0
  · rw [if_pos (decide_eq_true h), if_pos (by omega)]; congr 1; omega
  · rw [if_neg (by simpa using h), if_pos (by omega)]; congr 1; omega
theorem as_i64 {z : Int} (h : (Lit.int .i64 z).wf = true) : -9223372036854775808 ≤ z ∧ z ≤ 9223372036854775807 := by
  simp only [Lit.wf, IntKind.min, IntKind.max, IntKind.bits, IntKind.signed] at h
  simp at h; omega
theorem sign_some {a : RT} (ha : okRB a = true) : ∃ n, rat_Sign a = some n := by
  rcases right_cases (r := a) with h | ⟨p, hp, rfl⟩
  · exact ⟨_, sign_b ha h⟩
  · exact ⟨_, sign_q hp⟩
theorem isInt_some {a : RT} (ha : okRB a = true) : ∃ n, rat_IsInt a = some n := by
  rcases right_cases (r := a) with h | ⟨p, hp, rfl⟩
  · exact ⟨_, isInt_b ha h⟩
  · exact ⟨_, isInt_q hp⟩
theorem lawInts {z : Int} {a : RT} (hz : (Lit.int .i64 z).wf = true) (ha : okRB a = true) : law02_RatInts z a = some true := by
  unfold law02_RatInts
  obtain ⟨z1, z2⟩ := as_i64 hz
  have hx : ∃ x, ratToInt a = some x ∧ ref02_ToInt a = some x := by
    rcases right_cases (r := a) with h | ⟨p, hp, rfl⟩
    · exact ⟨_, toInt_b ha h, ref_toInt_b ha h⟩
    · exact ⟨_, toInt_q hp, ref_toInt_q hp⟩
  obtain ⟨x, x1, x2⟩ := hx
  obtain ⟨s, s1⟩ := sign_some ha
  obtain ⟨t, t1⟩ := isInt_some ha
  have fz : fits (z : Rat) := fits_int z1 (by omega)
  rw [x1, Option.bind_some, x2, Option.bind_some, ofInt_q z1 z2, Option.bind_some, toInt_q fz, Option.bind_some, intQ_int z1 z2, live_eq, Option.bind_some, if_pos rfl, if_pos rfl, if_pos (by simp), if_pos rfl, if_pos rfl, Option.bind_some,
    ref_ofInt_q z1 z2, Option.bind_some, ref2Same_self (ofQ_okRB fz), Option.bind_some, if_pos rfl, s1, Option.bind_some, ref_sign_eq ha, s1, Option.bind_some, if_pos rfl, t1, Option.bind_some, ref_isInt_eq ha, t1, Option.bind_some]
  simp
end Go.FL
/-
  The statement RatIntsSaid: for every input the law gives true, and each argument reads as it read before.
-/
namespace Go.Proofs.Ytijibkhkoopgpaa.ratInts
open Go.ChangeShapes Go.WideShapes Go.ChangeAt Go.RowKit Go.FL

theorem own : ownKnob Try.prog.godebug = none := by kernel_rfl
theorem laid : laidOutB Try.prog = true := by kernel_rfl
theorem params : ∀ t ∈ Try.f5.params.toList, Try.prog.readableRec t = true ∧ t < Try.prog.types.size := by
  intro t ht
  simp only [Try.params5, List.mem_cons, List.not_mem_nil, or_false] at ht
  rcases ht with rfl | rfl <;> exact ⟨by kernel_rfl, of_decide_eq_true (by kernel_rfl)⟩
set_option maxRecDepth 100000 in
theorem lifted (os : Os) (started : os.Started) (H : Type) (enc : TypeId × Value → H) :
    ReturnsInHanded {} Try.checked os 5 .any (Rows.ratIntsSpec.pre6 enc Try.prog Try.f5 Rows.ratIntsRow.domain false) (Rows.ratIntsSpec.post enc Try.prog Try.f5 false true false false) := by
  refine returnsInHanded_of_change_sized (C := Try.checked) own started (by kernel_rfl) Try.func5
    (ChangeSpec.witness6 (enc := enc) (C := Try.checked) false ⟨#[], #[.int .i64 0, .agg #[.bool false, .slice none 0 0, .slice none 0 0]], []⟩ 8 (by kernel_rfl) (by kernel_rfl) (by kernel_rfl) (by kernel_rfl)) ?_
  intro W base args ds gs before hval0 hW hcnd hsz _
  have hval : ∀ (j : Nat) t v, Try.f5.params[j]? = some t → args[j]? = some v → Value.okWide Try.prog W .any base t v := hval0
  have hW' := hW
  obtain ⟨p, q, hA0, hV, rfl, hfz, hnd⟩ := hW
  have hA : DataW.TrodAll enc Try.prog W 0 (fun _ => true) true Try.f5.params.toList args.toList ds p := hA0
  rw [Try.params5] at hA hval
  obtain ⟨v0, vs0, d0, ds0, p0, q0, hargs, rfl, rfl, h0, r0⟩ := trodAll_cons hA
  obtain ⟨v1, vs1, d1, ds1, p1, q1, rfl, rfl, rfl, h1, r1⟩ := trodAll_cons r0
  obtain ⟨rfl, rfl, rfl⟩ := trodAll_nil r1
  obtain rfl : args = #[v0, v1] := by cases args; simp_all
  obtain ⟨rfl, rfl⟩ := trodVars_none hV
  rw [Try.params5] at hsz
  have w0 : ∀ m ∈ DataW.weights Try.prog 3 d0, m ≤ reachBytes := fun m hm => by simpa using List.all_eq_true.1 hsz m (DataW.weights_mem_each (j := 0) rfl rfl m hm)
  obtain ⟨a0, o0, e0⟩ := arg_int (by kernel_rfl : Try.prog.underlying 3 = some (.int .i64)) (hval 0 3 v0 rfl rfl) h0
  have w1 : ∀ m ∈ DataW.weights Try.prog 25 d1, m ≤ reachBytes := fun m hm => by simpa using List.all_eq_true.1 hsz m (DataW.weights_mem_each (j := 1) rfl rfl m hm)
  obtain ⟨a1, o1, e1⟩ := arg_agg (v := v1) op_rat (let ⟨cs, h, _⟩ := okWide_struct (P := Try.prog) Try.underlying25 (hval 1 25 v1 rfl rfl); ⟨cs, h⟩) h1 w1
  refine (law_calls (law02_RatInts_ok (lawInts o0 o1)) (.cons e0 (.cons e1 .nil))).mono fun e W' ⟨he, hb⟩ => ?_
  subst he
  exact ⟨_, rfl, post_law hW' rfl (fun _ => rfl) rfl Try.underlying4 laid params hb⟩

theorem over : Rows.ratIntsRow.holds Try.pinned (OpenSpec.ofChange Rows.ratIntsSpec) :=
  OpenClaim.holds_of_wide 5 Try.f5 rfl rfl rfl rfl rfl rfl rfl ⟨rfl, rfl, rfl, rfl, rfl⟩ rfl rfl rfl rfl rfl (by kernel_rfl) Try.func5 (by kernel_rfl)
    (of_decide_eq_true (by kernel_rfl)) (by unfold Func.isWrapper; first | (rw [if_pos (by decide +kernel)]; kernel_rfl) | (rw [if_neg (by decide +kernel)]; exact ⟨rfl, rfl⟩))
    (fun os started H enc _ => lifted os started H enc)

theorem proved : Rows.RatIntsSaid :=
  over
end Go.Proofs.Ytijibkhkoopgpaa.ratInts
