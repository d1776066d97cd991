/-
  The law: its function printed as a pure function, its contract, the plain law, the statement
-/
import Derived.Test.YtijibkhkoopgpaaRdE
import Derived.Test.YtijibkhkoopgpaaRows
set_option linter.unusedVariables false
/-
  GP: the law RatMakes.
-/
namespace Go.FL
open Go Go.Proofs

end Go.FL
/-
  GP: the law RatReckons.
-/
namespace Go.FL
open Go Go.Proofs

end Go.FL
/-
  GP: the law RatOrders.
-/
namespace Go.FL
open Go Go.Proofs

end Go.FL
/-
  GP: the law RatRounds.
-/
namespace Go.FL
open Go Go.Proofs

end Go.FL
/-
  Plain laws, rat 7: RatMakes, RatReckons, RatOrders, RatRounds.
-/
namespace Go.FL
open Go Go.Proofs

theorem ref2Same_eq {a c : RT} (h1 : a.2.1.length ≤ 35184372087808) (h2 : a.2.2.length ≤ 35184372087808) : ref2Same a c = some (decide (a = c)) := if_pos (by rw [decide_eq_true h1, decide_eq_true h2]; rfl)
/-- An answer whose number is not too long. -/
def okA (x : RT × Int) : Prop := x.1.2.1.length ≤ 1048576 ∧ x.1.2.2.length ≤ 1048576
theorem ref2Same_self {a : RT} (ha : okRB a = true) : ref2Same a a = some true := by
  obtain ⟨_, _, h1, h2⟩ := okRB_iff.1 ha
  rw [ref2Same_eq h1 h2]; simp
end Go.FL
/-
  GP: the law RatBack.
-/
namespace Go.FL
open Go Go.Proofs

end Go.FL
/-
  GP: the law RatResidues.
-/
namespace Go.FL
open Go Go.Proofs

end Go.FL
/-
  Plain laws, rat 8: RatBack, RatResidues.
-/
namespace Go.FL
open Go Go.Proofs

end Go.FL
/-
  GP: the law RatCompares.
-/
namespace Go.FL
open Go Go.Proofs

end Go.FL
/-
  Plain laws, rat 9: RatCompares.
-/
namespace Go.FL
open Go Go.Proofs

def absR (p : Rat) : Rat := if p < 0 then -p else p
def maxA (p q : Rat) : Rat := if absR p < absR q then absR q else absR p
def within (c p q : Rat) : Prop := absR (p - q) ≤ c * maxA p q
instance (c p q : Rat) : Decidable (within c p q) := inferInstanceAs (Decidable (_ ≤ _))
end Go.FL
/-
  Plain laws, rat 10: RatCompares, the reference's side and the law.
-/
namespace Go.FL
open Go Go.Proofs

theorem dlen_zero {n : Nat} : ((List.length (digs n) : Nat) : Int) = 0 ↔ n = 0 := by
  have := digs_pos_iff (n := n)
  omega
end Go.FL
/-
  GP: the law RatPowers.
-/
namespace Go.FL
open Go Go.Proofs

def law02_RatPowers (a0 : RT) (a1 : Int) : Option (Bool) := ((ratOfInt (Int.tmod (IntKind.wrap .i64 a1) 20)).bind fun x1 => ((rat_Power a0 x1).bind fun x2 => ((ratOfInt (w64 ((Int.tmod (IntKind.wrap .i64 a1) 20) + 1))).bind fun x3 => ((rat_Power a0 x3).bind fun x4 => (if ((!(decide (x2.2 = 0))) || (!(decide (x4.2 = 0)))) = true then (law02_live.bind fun x5 => (Option.bind ((if x5 = true then (if x2.2 = 22 then ((ratRight a0).bind fun x7 => (some (!x7))) else (some true)) else (some false)) : Option (Bool)) fun (z5 : Bool) => (some (z5)))) else ((ratMul ([x2.1, a0])).bind fun x8 => (Option.bind ((if (Int.tmod (IntKind.wrap .i64 a1) 20) = (-1) then ((rat_Sign a0).bind fun x10 => (some (decide (x10 = 0)))) else (some false)) : Option (Bool)) fun (z9 : Bool) => (if z9 = true then (law02_live.bind fun x11 => (some (x11))) else (law02_live.bind fun x12 => (Option.bind ((if x12 = true then (if x8.2 = 8 then (some true) else (if x8.2 = 0 then ((ref2Same x8.1 x4.1).bind fun x14 => (some x14)) else (some false))) else (some false)) : Option (Bool)) fun (z12 : Bool) => (some (z12))))))))))))
theorem law02_RatPowers_ok {a0 : RT} {a1 : Int} {r : Bool} (h : law02_RatPowers a0 a1 = some r) :
    Fn Try.prog 8 [.ag [.b a0.1, .sl (L a0.2.1), .sl (L a0.2.2)], .i .i8 a1] (.d (.b r)) := by
  unfold law02_RatPowers at h
  refine Fn.of (rs := [.tmp 4]) (nt := 75) Try.func8 rfl rfl rfl (by simp) rfl ?_
  refine .seq ?_
  refine .region ?_
  refine vk (vbx) ?_
  refine asd ?_
  refine rn ?_
  refine .gh (Gh.keep [1, 2, 4] rfl) ?_
  refine .seq ?_
  refine .region ?_
  refine vk (vmvd) ?_
  refine vk (vcv gk_int8 gk_int) ?_
  refine vk (vbic (c := (20 : Int) ≠ 0) (by decide)) ?_
  refine asd ?_
  refine rn ?_
  refine .gh (Gh.keep [2, 4, 5] rfl) ?_
  refine .seq ?_
  obtain ⟨x1, hx1, h⟩ := bnd h
  obtain ⟨x2, hx2, h⟩ := bnd h
  refine .drawnF 8 [6] [(6, .nb [.b x2.1.1, .sl (L x2.1.2.1), .sl (L x2.1.2.2)])] [] mixed (by kernel_rfl) rfl ?_
  refine dv (vlda gA_R gS_R) ?_
  refine dv (vmvd) ?_
  refine dv (vcl0 (ratOfInt_ok hx1) Try.call28) ?_
  refine dv (VOK.tupd (vs := [.ag [.b x2.1.1, .sl (L x2.1.2.1), .sl (L x2.1.2.2)], .i .i64 x2.2]) (vcl0 (rat_Power_ok hx2) Try.call39)) ?_
  refine dv (vmvd) ?_
  refine dv (vex) ?_
  refine dv (vex) ?_
  refine dv (van (zero_of gI_R) gZ_R) ?_
  refine dz ?_
  refine ⟨?_, ?_, ?_⟩
  · intro k hk
    simp only [List.mem_cons, List.not_mem_nil, or_false] at hk
    subst hk
    exact ⟨_, _, _, rfl, rfl, rfl, rfl, rfl, rfl, vex⟩
  · intro om e hom hge
    cases hom
    exact ok_stn (cs := [.b false, .sl (L []), .sl (L [])]) (cs' := [.b x2.1.1, .sl (L x2.1.2.1), .sl (L x2.1.2.2)]) gS_R (by decide) rfl ((hge 6 (fun k hk v hv => by
        simp only [List.mem_cons, List.not_mem_nil, or_false] at hk
        subst hk; exact (by decide : ¬ (some 21 = some 6)) (congrArg (Option.map Prod.fst) hv))).trans rfl) ((congrArg deepOf (hge 20 (fun k hk v hv => by
        simp only [List.mem_cons, List.not_mem_nil, or_false] at hk
        subst hk; exact (by decide : ¬ (some 21 = some 20)) (congrArg (Option.map Prod.fst) hv)))).trans rfl) rfl rfl rfl rfl ⟨rfl, rfl⟩
  refine asd ?_
  refine rn ?_
  refine .gh (Gh.keep [2, 4, 5, 6, 7] rfl) ?_
  refine .seq ?_
  obtain ⟨x3, hx3, h⟩ := bnd h
  obtain ⟨x4, hx4, h⟩ := bnd h
  refine .drawnF 9 [7] [(8, .nb [.b x4.1.1, .sl (L x4.1.2.1), .sl (L x4.1.2.2)])] [] mixed (by kernel_rfl) rfl ?_
  refine dv (vlda gA_R gS_R) ?_
  refine dv (vmvd) ?_
  refine dv (vbi) ?_
  refine dv (vcl0 (ratOfInt_ok hx3) Try.call28) ?_
  refine dv (VOK.tupd (vs := [.ag [.b x4.1.1, .sl (L x4.1.2.1), .sl (L x4.1.2.2)], .i .i64 x4.2]) (vcl0 (rat_Power_ok hx4) Try.call39)) ?_
  refine dv (vmvd) ?_
  refine dv (vex) ?_
  refine dv (vex) ?_
  refine dv (van (zero_of gI_R) gZ_R) ?_
  refine dz ?_
  refine ⟨?_, ?_, ?_⟩
  · intro k hk
    simp only [List.mem_cons, List.not_mem_nil, or_false] at hk
    subst hk
    exact ⟨_, _, _, rfl, rfl, rfl, rfl, rfl, rfl, vex⟩
  · intro om e hom hge
    cases hom
    exact ok_stn (cs := [.b false, .sl (L []), .sl (L [])]) (cs' := [.b x4.1.1, .sl (L x4.1.2.1), .sl (L x4.1.2.2)]) gS_R (by decide) rfl ((hge 8 (fun k hk v hv => by
        simp only [List.mem_cons, List.not_mem_nil, or_false] at hk
        subst hk; exact (by decide : ¬ (some 29 = some 8)) (congrArg (Option.map Prod.fst) hv))).trans rfl) ((congrArg deepOf (hge 28 (fun k hk v hv => by
        simp only [List.mem_cons, List.not_mem_nil, or_false] at hk
        subst hk; exact (by decide : ¬ (some 29 = some 28)) (congrArg (Option.map Prod.fst) hv)))).trans rfl) rfl rfl rfl rfl ⟨rfl, rfl⟩
  refine asd ?_
  refine rn ?_
  refine .gh (Gh.keep [2, 4, 5, 6, 7, 8, 9] rfl) ?_
  refine .seq ?_
  refine .seq ?_
  refine AW.mr (σ := Unit) (fun _ => True) (fun _ => [(2, .d (.ptr [.b a0.1, .sl (L a0.2.1), .sl (L a0.2.2)])), (4, .d (.b false)), (5, .d (.i .i64 (Int.tmod (IntKind.wrap .i64 a1) 20))), (6, .nb [.b x2.1.1, .sl (L x2.1.2.1), .sl (L x2.1.2.2)]), (7, .d (.i .i64 x2.2)), (8, .nb [.b x4.1.1, .sl (L x4.1.2.1), .sl (L x4.1.2.2)]), (35, .d (.b ((!(decide (x2.2 = 0))) || (!(decide (x4.2 = 0))))))]) (fun _ => []) ?_ ?_
  · skip
    refine .region ?_
    refine vk (vmvd) ?_
    refine vk (vbi) ?_
    by_cases hc : x2.2 = 0
    · have hb0 : (!(decide (x2.2 = 0))) = false := (ntf (decide_eq_true hc))
      refine vk (VOK.lit (vmvd) hb0) ?_
      refine vk (vmvd) ?_
      refine vk (vbi) ?_
      refine vk (vpkd) ?_
      refine RL.gh (Gh.keep [2, 4, 5, 6, 7, 8, 35] rfl) ?_
      refine .nil ?_
      exact jr () trivial (by simp only [hb0]; rfl)
    have hb0 : (!(decide (x2.2 = 0))) = true := (ntt (decide_eq_false hc))
    refine vk (VOK.lit (vmvd) hb0) ?_
    refine gf ?_
    refine gf ?_
    refine vk (vpkd) ?_
    refine RL.gh (Gh.keep [2, 4, 5, 6, 7, 8, 35] rfl) ?_
    refine .nil ?_
    exact jr () trivial (by simp only [hb0]; rfl)
  rintro _ _
  by_cases hc : ((!(decide (x2.2 = 0))) || (!(decide (x4.2 = 0)))) = true
  · replace h := ite_t hc h
    refine cnt hc ?_
    refine .seq ?_
    obtain ⟨x5, hx5, h⟩ := bnd h
    obtain ⟨z5, hz, h⟩ := bnd h
    refine AW.mr (σ := Unit) (fun _ => True) (fun _ => [(2, .d (.ptr [.b a0.1, .sl (L a0.2.1), .sl (L a0.2.2)])), (4, .d (.b z5)), (5, .d (.i .i64 (Int.tmod (IntKind.wrap .i64 a1) 20))), (6, .nb [.b x2.1.1, .sl (L x2.1.2.1), .sl (L x2.1.2.2)]), (8, .nb [.b x4.1.1, .sl (L x4.1.2.1), .sl (L x4.1.2.2)])]) (fun _ => []) ?_ ?_
    · skip
      refine .region ?_
      refine vk (vcl0 (law02_live_ok hx5) Try.call15) ?_
      by_cases hc : x5 = true
      · replace hz := ite_t hc hz
        have hb0 : x5 = true := hc
        refine vk (VOK.lit (vmvd) hb0) ?_
        refine vk (vmvd) ?_
        refine vk (vbi) ?_
        by_cases hc : x2.2 = 22
        · replace hz := ite_t hc hz
          have hb1 : (!(decide (x2.2 = 22))) = false := (ntf (decide_eq_true hc))
          refine vk (VOK.lit (vmvd) hb1) ?_
          refine vk (vlda gA_R gS_R) ?_
          obtain ⟨x7, hx7, hz⟩ := bnd hz
          refine vk (vcl0 (ratRight_ok hx7) Try.call19) ?_
          refine vk (vnt) ?_
          refine vk (vpkd) ?_
          refine vk (vpkd) ?_
          refine asd ?_
          refine RL.gh (Gh.keep [2, 4, 5, 6, 8] rfl) ?_
          refine .nil ?_
          cases hz
          exact jr () trivial
        replace hz := ite_f hc hz
        have hb1 : (!(decide (x2.2 = 22))) = true := (ntt (decide_eq_false hc))
        refine vk (VOK.lit (vmvd) hb1) ?_
        refine gf ?_
        refine gf ?_
        refine gf ?_
        refine vk (vpkd) ?_
        refine vk (vpkd) ?_
        refine asd ?_
        refine RL.gh (Gh.keep [2, 4, 5, 6, 8] rfl) ?_
        refine .nil ?_
        cases hz
        exact jr () trivial
      replace hz := ite_f hc hz
      have hb0 : x5 = false := (bf hc)
      refine vk (VOK.lit (vmvd) hb0) ?_
      refine gf ?_
      refine gf ?_
      refine gfu ?_
      refine gf ?_
      refine gf ?_
      refine gf ?_
      refine gf ?_
      refine vk (vpkd) ?_
      refine asd ?_
      refine RL.gh (Gh.keep [2, 4, 5, 6, 8] rfl) ?_
      refine .nil ?_
      cases hz
      exact jr () trivial
    rintro _ _
    refine .ret ?_
    cases h
    exact ⟨rfl, rfl⟩
  replace h := ite_f hc h
  refine cnf (bf hc) ?_
  refine .skip ?_
  show AW _ _ _ _ _ _
  refine .seq ?_
  refine .region ?_
  refine vk (vldn gA_R gS_R) ?_
  refine vk (vlda gA_R gS_R) ?_
  refine vk ((vbsl (RVs_flat [x2.1, a0]) ge_RVs).deep) ?_
  obtain ⟨x8, hx8, h⟩ := bnd h
  refine vk (VOK.tupd (vs := [.ag [.b x8.1.1, .sl (L x8.1.2.1), .sl (L x8.1.2.2)], .i .i64 x8.2]) (vcl0 (ratMul_ok hx8) Try.call35)) ?_
  refine vk (vmvd) ?_
  refine vk (vex) ?_
  refine vk (vex) ?_
  refine vk (van (zero_of gI_R) gZ_R) ?_
  refine stn ?_ gS_R (by decide)
  refine asd ?_
  refine rn ?_
  refine .gh (Gh.keep [2, 4, 5, 8, 10, 11] rfl) ?_
  refine .seq ?_
  refine .seq ?_
  obtain ⟨z9, hz, h⟩ := bnd h
  refine AW.mr (σ := Unit) (fun _ => True) (fun _ => [(4, .d (.b false)), (8, .nb [.b x4.1.1, .sl (L x4.1.2.1), .sl (L x4.1.2.2)]), (10, .nb [.b x8.1.1, .sl (L x8.1.2.1), .sl (L x8.1.2.2)]), (11, .d (.i .i64 x8.2)), (59, .d (.b z9))]) (fun _ => []) ?_ ?_
  · skip
    refine .region ?_
    refine vk (vmvd) ?_
    refine vk (vbi) ?_
    by_cases hc : (Int.tmod (IntKind.wrap .i64 a1) 20) = (-1)
    · replace hz := ite_t hc hz
      have hb0 : (decide ((Int.tmod (IntKind.wrap .i64 a1) 20) = (-1))) = true := (decide_eq_true hc)
      refine vk (VOK.lit (vmvd) hb0) ?_
      refine vk (vlda gA_R gS_R) ?_
      obtain ⟨x10, hx10, hz⟩ := bnd hz
      refine vk (vcl0 (rat_Sign_ok hx10) Try.call30) ?_
      refine vk (vbi) ?_
      refine vk (vpkd) ?_
      refine RL.gh (Gh.keep [4, 8, 10, 11, 59] rfl) ?_
      refine .nil ?_
      cases hz
      exact jr () trivial
    replace hz := ite_f hc hz
    have hb0 : (decide ((Int.tmod (IntKind.wrap .i64 a1) 20) = (-1))) = false := (decide_eq_false hc)
    refine vk (VOK.lit (vmvd) hb0) ?_
    refine gf ?_
    refine gf ?_
    refine gf ?_
    refine vk (vpkd) ?_
    refine RL.gh (Gh.keep [4, 8, 10, 11, 59] rfl) ?_
    refine .nil ?_
    cases hz
    exact jr () trivial
  rintro _ _
  by_cases hc : z9 = true
  · replace h := ite_t hc h
    refine cnt hc ?_
    refine .seq ?_
    refine .region ?_
    obtain ⟨x11, hx11, h⟩ := bnd h
    refine vk (vcl0 (law02_live_ok hx11) Try.call15) ?_
    refine asd ?_
    refine rn ?_
    refine .gh (Gh.keep [4, 8, 10, 11] rfl) ?_
    refine .ret ?_
    cases h
    exact ⟨rfl, rfl⟩
  replace h := ite_f hc h
  refine cnf (bf hc) ?_
  refine .skip ?_
  show AW _ _ _ _ _ _
  refine .seq ?_
  obtain ⟨x12, hx12, h⟩ := bnd h
  obtain ⟨z12, hz, h⟩ := bnd h
  refine AW.mr (σ := Unit) (fun _ => True) (fun _ => [(4, .d (.b z12))]) (fun _ => []) ?_ ?_
  · skip
    refine .region ?_
    refine vk (vcl0 (law02_live_ok hx12) Try.call15) ?_
    by_cases hc : x12 = true
    · replace hz := ite_t hc hz
      have hb0 : x12 = true := hc
      refine vk (VOK.lit (vmvd) hb0) ?_
      refine vk (vmvd) ?_
      refine vk (vbi) ?_
      by_cases hc : x8.2 = 8
      · replace hz := ite_t hc hz
        have hb1 : (decide (x8.2 = 8)) = true := (decide_eq_true hc)
        refine vk (VOK.lit (vmvd) hb1) ?_
        refine gf ?_
        refine gf ?_
        refine gfu ?_
        refine gf ?_
        refine gf ?_
        refine gf ?_
        refine gf ?_
        refine vk (vpkd) ?_
        refine vk (vpkd) ?_
        refine asd ?_
        refine RL.gh (Gh.keep [4] rfl) ?_
        refine .nil ?_
        cases hz
        exact jr () trivial
      replace hz := ite_f hc hz
      have hb1 : (decide (x8.2 = 8)) = false := (decide_eq_false hc)
      refine vk (VOK.lit (vmvd) hb1) ?_
      refine vk (vmvd) ?_
      refine vk (vbi) ?_
      by_cases hc : x8.2 = 0
      · replace hz := ite_t hc hz
        have hb2 : (decide (x8.2 = 0)) = true := (decide_eq_true hc)
        refine vk (VOK.lit (vmvd) hb2) ?_
        refine vk (vldn gA_R gS_R) ?_
        refine vk (vldn gA_R gS_R) ?_
        obtain ⟨x14, hx14, hz⟩ := bnd hz
        refine vk (vcl0 (ref2Same_ok hx14) Try.call25) ?_
        refine vk (vpkd) ?_
        refine vk (vpkd) ?_
        refine vk (vpkd) ?_
        refine asd ?_
        refine RL.gh (Gh.keep [4] rfl) ?_
        refine .nil ?_
        cases hz
        exact jr () trivial
      replace hz := ite_f hc hz
      have hb2 : (decide (x8.2 = 0)) = false := (decide_eq_false hc)
      refine vk (VOK.lit (vmvd) hb2) ?_
      refine gf ?_
      refine gf ?_
      refine gf ?_
      refine vk (vpkd) ?_
      refine vk (vpkd) ?_
      refine vk (vpkd) ?_
      refine asd ?_
      refine RL.gh (Gh.keep [4] rfl) ?_
      refine .nil ?_
      cases hz
      exact jr () trivial
    replace hz := ite_f hc hz
    have hb0 : x12 = false := (bf hc)
    refine vk (VOK.lit (vmvd) hb0) ?_
    refine gf ?_
    refine gf ?_
    refine gfu ?_
    refine gf ?_
    refine gf ?_
    refine gfu ?_
    refine gf ?_
    refine gf ?_
    refine gf ?_
    refine gf ?_
    refine gf ?_
    refine vk (vpkd) ?_
    refine asd ?_
    refine RL.gh (Gh.keep [4] rfl) ?_
    refine .nil ?_
    cases hz
    exact jr () trivial
  rintro _ _
  refine .ret ?_
  cases h
  exact ⟨rfl, rfl⟩
end Go.FL
/-
  Plain laws, rat 11: powers, RatPowers.
-/
namespace Go.FL
open Go Go.Proofs

theorem int_pow_neg (z : Int) : ∀ m : Nat, z ^ m < 0 ↔ (z < 0 ∧ m % 2 = 1)
  | 0 => by simp
  | 1 => by rw [Int.pow_succ, Int.pow_zero, Int.one_mul]; simp
  | m + 2 => by
    have ih := int_pow_neg z m
    have e : z ^ (m + 2) = z ^ m * (z * z) := by rw [Int.pow_succ, Int.pow_succ, Int.mul_assoc]
    rw [e, show (m + 2) % 2 = m % 2 by omega, ← ih]
    by_cases hz : z = 0
    · subst hz
      cases m with
      | zero => simp
      | succ m => rw [Int.pow_succ]; simp
    · have hp : 0 < z * z := by
        rcases Int.lt_or_lt_of_ne hz with h | h
        · exact Int.mul_pos_of_neg_of_neg h h
        · exact Int.mul_pos h h
      constructor
      · intro h
        apply Int.not_le.1
        intro h2
        have := Int.mul_nonneg h2 (Int.le_of_lt hp)
        omega
      · intro h; exact Int.mul_neg_of_neg_of_pos h hp
theorem ofQ_pow (p : Rat) (m : Nat) : ofQ (p ^ m) = (decide (p.num < 0 ∧ m % 2 = 1), digs (p.num.natAbs ^ m), digs (p.den ^ m)) := by
  unfold ofQ
  rw [Rat.num_pow, Rat.den_pow, Int.natAbs_pow]
  simp only [int_pow_neg]
theorem ofQ_inv {p : Rat} (h : p ≠ 0) : ofQ p⁻¹ = (decide (p.num < 0), digs p.den, digs p.num.natAbs) := by
  unfold ofQ
  have hn : p.num ≠ 0 := fun e => h (Rat.num_eq_zero.1 e)
  rw [Rat.num_inv, Rat.den_inv, if_neg hn, Int.natAbs_mul, Int.natAbs_sign, if_neg hn, Int.natAbs_natCast, Nat.one_mul]
  have : p.num.sign * (p.den : Int) < 0 ↔ p.num < 0 := by
    have hd := p.den_nz
    rcases Int.lt_trichotomy p.num 0 with h1 | h1 | h1
    · rw [Int.sign_eq_neg_one_of_neg h1]; omega
    · exact absurd h1 hn
    · rw [Int.sign_eq_one_of_pos h1]; omega
  simp only [this]
theorem powers_eq {a : List Nat} {n : Int} (h : okL 1000 a = true) (h0 : 0 ≤ n) (h1 : n < 1000) : nPower a n 32 = some (digs (pwV (val a) n.toNat 32), decide (pwOK (val a) n.toNat 32)) := by
  unfold nPower
  rw [if_pos (by rw [h, Bool.true_and]; exact decide_eq_true ⟨by omega, by decide, by decide⟩), if_neg (by omega)]; rfl
theorem small_eq {m : Nat} (h : m < 4294967296) : nSmall (digs m) = some ((m : Int), true) := by
  unfold nSmall
  have h2 : bitsN m ≤ 63 := bitsN_iff.2 (by omega)
  rw [if_pos (okL_digs (Nat.le_trans (few_len h) (by decide))), val_digs, smallN, val_digs, if_pos h2, decide_eq_true h2]
theorem odd_bit : ∀ m : Nat, m ≤ 20 → decide (bits .and .u32 ((m : Nat) : Int) 1 = 1) = decide (m % 2 = 1) := by decide +kernel
theorem equal_digs {m n : Nat} (hm : (digs m).length ≤ 1048576) (hn : (digs n).length ≤ 1048576) : sEqualL (digs m) (digs n) = some (decide (m = n)) := by
  rw [equalL_eq (okL_digs hm) (okL_digs (by omega))]
  congr 1
  exact decide_eq_decide.2 ⟨digs_inj, fun h => by rw [h]⟩
theorem power_b {a b : RT} (ha : okRB a = true) (hb : okRB b = true) (h : (rightR a && rightR b) = false) : rat_Power a b = some (bad 22) := by
  unfold rat_Power; rw [ratAll2 ha hb, h]; rfl
theorem fits_small (n : Int) (h : n.natAbs ≤ 20) : fits (n : Rat) := fits_int (by omega) (by omega)
theorem power_q {p : Rat} (hp : fits p) {n : Int} (hn : n.natAbs ≤ 20) : ∃ x, rat_Power (ofQ p) (ofQ (n : Rat)) = some x ∧ x.2 ≠ 22 ∧ (x.2 = 0 → fits (p ^ n) ∧ x.1 = ofQ (p ^ n) ∧ (p = 0 → 0 ≤ n)) := by
  have hf := fits_small n hn
  unfold rat_Power
  rw [ratAll2 (ofQ_okRB hp) (ofQ_okRB hf), two_right hp hf, Option.bind_some, if_pos rfl, isInt_q hf, Option.bind_some]
  have hs : (ofQ (n : Rat)).1 = decide (n < 0) := by show decide ((n : Rat).num < 0) = _; rw [Rat.num_intCast]
  have hl : (ofQ (n : Rat)).2.1 = digs n.natAbs := by show digs (n : Rat).num.natAbs = _; rw [Rat.num_intCast]
  rw [hs, hl]
  simp only [num_zero, dlen_zero, Rat.den_intCast, decide_true, Bool.not_true, Bool.false_or]
  have hpn : (ofQ p).2.1 = digs p.num.natAbs := rfl
  have hpd : (ofQ p).2.2 = digs p.den := rfl
  by_cases e0 : p = 0 ∧ n < 0
  · rw [if_pos (by rw [decide_eq_true e0.1, decide_eq_true e0.2]; rfl)]
    exact ⟨_, rfl, by decide, fun h => absurd h (by decide)⟩
  rw [if_neg (by simpa using e0)]
  by_cases hn0 : n = 0
  · subst hn0
    rw [if_pos (show Int.natAbs 0 = 0 from rfl), ofInt_q (by decide) (by decide)]
    refine ⟨_, rfl, by decide, fun _ => ?_⟩
    rw [Rat.zpow_zero]
    exact ⟨fits_one, rfl, fun _ => by decide⟩
  rw [if_neg (by omega)]
  by_cases hp0 : p = 0
  · have hnn : 0 ≤ n := by
      apply Int.not_lt.1; intro h; exact e0 ⟨hp0, h⟩
    rw [if_pos hp0, ofInt_q (by decide) (by decide)]
    refine ⟨_, rfl, by decide, fun _ => ?_⟩
    have e : (0 : Rat) ^ n = 0 := by
      obtain ⟨m, rfl⟩ := Int.eq_ofNat_of_zero_le hnn
      rw [Rat.zpow_natCast]
      cases m with
      | zero => exact absurd rfl hn0
      | succ m => rw [Rat.pow_succ, Rat.mul_zero]
    rw [hp0, e]
    exact ⟨fits_zero, rfl, fun _ => hnn⟩
  rw [if_neg hp0]
  have hm0 : n.natAbs ≠ 0 := by omega
  have hrd : rd? (digs n.natAbs) 0 = some n.natAbs := by rw [one_limb (by omega) (by omega)]; rfl
  have hz : (if (ofQ p).1 = true then ((rd? (digs n.natAbs) 0).bind fun x6 => (some (decide ((bits .and .u32 ((x6 : Nat) : Int) 1) = 1)))) else (some false)) = some (decide (p.num < 0 ∧ n.natAbs % 2 = 1)) := by
    rw [hrd, Option.bind_some, odd_bit _ hn]
    show (if decide (p.num < 0) = true then some (decide (n.natAbs % 2 = 1)) else some false) = _
    by_cases h : p.num < 0
    · rw [if_pos (decide_eq_true h)]; simp [h]
    · rw [if_neg (by simpa using h)]; simp [h]
  rw [hz, Option.bind_some]
  have hinv : p ^ n.natAbs ≠ 0 := by
    intro h
    have h1 : (p ^ n.natAbs).num = 0 := by rw [h]; rfl
    rw [Rat.num_pow] at h1
    have h2 : p.num ≠ 0 := fun e => hp0 (Rat.num_eq_zero.1 e)
    exact absurd h1 (by
      intro h3
      have h4 : (p.num ^ n.natAbs).natAbs = 0 := by rw [h3]; rfl
      rw [Int.natAbs_pow] at h4
      exact absurd h4 (Nat.pos_iff_ne_zero.1 (Nat.pow_pos (by omega))))
  have hpos : 0 ≤ n → ofQ (p ^ n) = (decide (p.num < 0 ∧ n.natAbs % 2 = 1), digs (p.num.natAbs ^ n.natAbs), digs (p.den ^ n.natAbs)) := fun h => by
    have : p ^ n = p ^ n.natAbs := by rw [← Rat.zpow_natCast, Int.natAbs_of_nonneg h]
    rw [this, ofQ_pow]
  have hneg : n < 0 → ofQ (p ^ n) = (decide (p.num < 0 ∧ n.natAbs % 2 = 1), digs (p.den ^ n.natAbs), digs (p.num.natAbs ^ n.natAbs)) := fun h => by
    have : p ^ n = (p ^ n.natAbs)⁻¹ := by rw [← Rat.zpow_natCast, ← Rat.zpow_neg]; congr 1; omega
    rw [this, ofQ_inv hinv, Rat.num_pow, Rat.den_pow, Int.natAbs_pow]
    simp only [int_pow_neg]
  have fits_of : ∀ {a b : Nat} {s : Bool} {r : Rat}, ofQ r = (s, digs a, digs b) → (digs a).length ≤ 32 → (digs b).length ≤ 32 → fits r := fun e h1 h2 => by
    unfold fits small
    have k1 := congrArg (fun x : RT => x.2.1) e
    have k2 := congrArg (fun x : RT => x.2.2) e
    simp only [ofQ] at k1 k2
    rw [k1, k2]; exact ⟨h1, h2⟩
  rw [hpn, hpd, equal_digs (Nat.le_trans hp.1 (by decide)) (Nat.le_trans hp.2 (by decide)), Option.bind_some]
  by_cases heq : p.num.natAbs = p.den
  · rw [if_pos (decide_eq_true heq), ratOne_eq]
    refine ⟨_, rfl, by show (0 : Int) ≠ 22; decide, fun _ => ?_⟩
    have hd1 : p.den = 1 := by
      have := p.reduced
      unfold Nat.Coprime at this
      rw [heq, Nat.gcd_self] at this
      exact this
    rw [heq, hd1, Nat.one_pow, one_digs] at hpos hneg
    have hq : ofQ (p ^ n) = (decide (p.num < 0 ∧ n.natAbs % 2 = 1), digs 1, digs 1) := by
      rw [one_digs]
      rcases Int.lt_or_le n 0 with h | h
      · exact hneg h
      · exact hpos h
    refine ⟨fits_of hq (by rw [one_digs]; decide) (by rw [one_digs]; decide), ?_, fun h => absurd h hp0⟩
    rw [hq, one_digs]
  · rw [if_neg (by simpa using heq), small_eq (by omega), Option.bind_some, if_pos rfl,
      powers_eq (small_ok hp.1 (by decide)) (by omega) (by omega), Option.bind_some, powers_eq (small_ok hp.2 (by decide)) (by omega) (by omega), Option.bind_some, val_digs, val_digs, Int.toNat_natCast]
    by_cases h1 : pwOK p.num.natAbs n.natAbs 32
    · by_cases h2 : pwOK p.den n.natAbs 32
      · rw [if_neg (by simp [h1, h2])]
        unfold pwV
        rw [if_pos h1, if_pos h2]
        by_cases hs2 : n < 0
        · rw [if_pos (decide_eq_true hs2)]
          exact ⟨_, rfl, by show (0 : Int) ≠ 22; decide, fun _ => ⟨fits_of (hneg hs2) h2 h1, (hneg hs2).symm, fun h => absurd h hp0⟩⟩
        · rw [if_neg (by simpa using hs2)]
          exact ⟨_, rfl, by show (0 : Int) ≠ 22; decide, fun _ => ⟨fits_of (hpos (by omega)) h1 h2, (hpos (by omega)).symm, fun h => absurd h hp0⟩⟩
      · rw [if_pos (by simp [h2])]
        exact ⟨_, rfl, by decide, fun h => absurd h (by decide)⟩
    · rw [if_pos (by simp [h1])]
      exact ⟨_, rfl, by decide, fun h => absurd h (by decide)⟩
theorem pow_next {p : Rat} {n : Int} (h : p = 0 → 0 ≤ n) : p ^ n * p = p ^ (n + 1) := by
  by_cases hp : p = 0
  · obtain ⟨m, rfl⟩ := Int.eq_ofNat_of_zero_le (h hp)
    rw [Rat.zpow_natCast, show ((m : Int) + 1) = ((m + 1 : Nat) : Int) from rfl, Rat.zpow_natCast, Rat.pow_succ]
  · rw [Rat.zpow_add_one hp]
theorem as_i8 {z : Int} (h : (Lit.int .i8 z).wf = true) : -128 ≤ z ∧ z ≤ 127 := by
  simp only [Lit.wf, IntKind.min, IntKind.max, IntKind.bits, IntKind.signed] at h
  simp at h; omega
theorem lawPowers {a : RT} {i : Int} (ha : okRB a = true) (hi : (Lit.int .i8 i).wf = true) : law02_RatPowers a i = some true := by
  unfold law02_RatPowers
  have hw : IntKind.wrap .i64 i = i := by
    have h : -128 ≤ i ∧ i ≤ 127 := as_i8 hi
    exact w64_eq (by omega) (by omega)
  rw [hw]
  have hb : (Int.tmod i 20).natAbs ≤ 19 := by
    rw [Int.natAbs_tmod]; show i.natAbs % 20 ≤ 19; omega
  generalize Int.tmod i 20 = n at *
  rw [w64_eq (by omega) (by omega), ofInt_q (by omega) (by omega), Option.bind_some, ofInt_q (by omega) (by omega)]
  rcases right_cases (r := a) with h | ⟨p, hp, rfl⟩
  · rw [power_b ha (ofQ_okRB (fits_small n (by omega))) (by rw [h]; rfl), Option.bind_some, Option.bind_some, power_b ha (ofQ_okRB (fits_small (n + 1) (by omega))) (by rw [h]; rfl), Option.bind_some, if_pos (by rfl), live_eq, Option.bind_some, if_pos rfl, if_pos rfl, ratRight_eq ha, h]; rfl
  obtain ⟨x, x1, x2, x3⟩ := power_q hp (n := n) (by omega)
  obtain ⟨y, y1, y2, y3⟩ := power_q hp (n := n + 1) (by omega)
  rw [x1, Option.bind_some, Option.bind_some, y1, Option.bind_some]
  by_cases h0 : x.2 = 0 ∧ y.2 = 0
  · rw [if_neg (by simp [h0.1, h0.2])]
    obtain ⟨f1, e1, g1⟩ := x3 h0.1
    obtain ⟨f2, e2, g2⟩ := y3 h0.2
    rw [e1, e2, mul2_q f1 hp, Option.bind_some, pow_next g1]
    have hz : ∃ b : Bool, (if n = -1 then ((rat_Sign (ofQ p)).bind fun x10 => some (decide (x10 = 0))) else some false) = some b := by
      split
      · rw [sign_q hp]; exact ⟨_, rfl⟩
      · exact ⟨_, rfl⟩
    obtain ⟨b, hb2⟩ := hz
    rw [hb2, Option.bind_some, live_eq, Option.bind_some, Option.bind_some, if_pos rfl]
    cases b
    · rw [if_neg (by decide), resR_fits f2, if_neg (by show ¬ (0 : Int) = 8; decide), if_pos rfl, ref2Same_self (ofQ_okRB f2)]; rfl
    · rfl
  · rw [if_pos (by
      rcases Decidable.not_and_iff_or_not.1 h0 with h | h
      · rw [decide_eq_false h]; rfl
      · rw [decide_eq_false h, Bool.not_false, Bool.or_true]), live_eq, Option.bind_some, if_pos rfl, if_neg x2]; rfl
end Go.FL
/-
  The statement RatPowersSaid: for every input the law gives true, and each argument reads as it read before.
-/
namespace Go.Proofs.Ytijibkhkoopgpaa.ratPowers
open Go.ChangeShapes Go.WideShapes Go.ChangeAt Go.RowKit Go.FL

theorem own : ownKnob Try.prog.godebug = none := by kernel_rfl
theorem laid : laidOutB Try.prog = true := by kernel_rfl
theorem params : ∀ t ∈ Try.f8.params.toList, Try.prog.readableRec t = true ∧ t < Try.prog.types.size := by
  intro t ht
  simp only [Try.params8, List.mem_cons, List.not_mem_nil, or_false] at ht
  rcases ht with rfl | rfl <;> exact ⟨by kernel_rfl, of_decide_eq_true (by kernel_rfl)⟩
set_option maxRecDepth 100000 in
theorem lifted (os : Os) (started : os.Started) (H : Type) (enc : TypeId × Value → H) :
    ReturnsInHanded {} Try.checked os 8 .any (Rows.ratPowersSpec.pre6 enc Try.prog Try.f8 Rows.ratPowersRow.domain false) (Rows.ratPowersSpec.post enc Try.prog Try.f8 false true false false) := by
  refine returnsInHanded_of_change_sized (C := Try.checked) own started (by kernel_rfl) Try.func8
    (ChangeSpec.witness6 (enc := enc) (C := Try.checked) false ⟨#[], #[.agg #[.bool false, .slice none 0 0, .slice none 0 0], .int .i8 0], []⟩ 8 (by kernel_rfl) (by kernel_rfl) (by kernel_rfl) (by kernel_rfl)) ?_
  intro W base args ds gs before hval0 hW hcnd hsz _
  have hval : ∀ (j : Nat) t v, Try.f8.params[j]? = some t → args[j]? = some v → Value.okWide Try.prog W .any base t v := hval0
  have hW' := hW
  obtain ⟨p, q, hA0, hV, rfl, hfz, hnd⟩ := hW
  have hA : DataW.TrodAll enc Try.prog W 0 (fun _ => true) true Try.f8.params.toList args.toList ds p := hA0
  rw [Try.params8] at hA hval
  obtain ⟨v0, vs0, d0, ds0, p0, q0, hargs, rfl, rfl, h0, r0⟩ := trodAll_cons hA
  obtain ⟨v1, vs1, d1, ds1, p1, q1, rfl, rfl, rfl, h1, r1⟩ := trodAll_cons r0
  obtain ⟨rfl, rfl, rfl⟩ := trodAll_nil r1
  obtain rfl : args = #[v0, v1] := by cases args; simp_all
  obtain ⟨rfl, rfl⟩ := trodVars_none hV
  rw [Try.params8] at hsz
  have w0 : ∀ m ∈ DataW.weights Try.prog 25 d0, m ≤ reachBytes := fun m hm => by simpa using List.all_eq_true.1 hsz m (DataW.weights_mem_each (j := 0) rfl rfl m hm)
  obtain ⟨a0, o0, e0⟩ := arg_agg (v := v0) op_rat (let ⟨cs, h, _⟩ := okWide_struct (P := Try.prog) Try.underlying25 (hval 0 25 v0 rfl rfl); ⟨cs, h⟩) h0 w0
  have w1 : ∀ m ∈ DataW.weights Try.prog 46 d1, m ≤ reachBytes := fun m hm => by simpa using List.all_eq_true.1 hsz m (DataW.weights_mem_each (j := 1) rfl rfl m hm)
  obtain ⟨a1, o1, e1⟩ := arg_int (by kernel_rfl : Try.prog.underlying 46 = some (.int .i8)) (hval 1 46 v1 rfl rfl) h1
  refine (law_calls (law02_RatPowers_ok (lawPowers o0 o1)) (.cons e0 (.cons e1 .nil))).mono fun e W' ⟨he, hb⟩ => ?_
  subst he
  exact ⟨_, rfl, post_law hW' rfl (fun _ => rfl) rfl Try.underlying4 laid params hb⟩

theorem over : Rows.ratPowersRow.holds Try.pinned (OpenSpec.ofChange Rows.ratPowersSpec) :=
  OpenClaim.holds_of_wide 8 Try.f8 rfl rfl rfl rfl rfl rfl rfl ⟨rfl, rfl, rfl, rfl, rfl⟩ rfl rfl rfl rfl rfl (by kernel_rfl) Try.func8 (by kernel_rfl)
    (of_decide_eq_true (by kernel_rfl)) (by unfold Func.isWrapper; first | (rw [if_pos (by decide +kernel)]; kernel_rfl) | (rw [if_neg (by decide +kernel)]; exact ⟨rfl, rfl⟩))
    (fun os started H enc _ => lifted os started H enc)

theorem proved : Rows.RatPowersSaid :=
  over
end Go.Proofs.Ytijibkhkoopgpaa.ratPowers
