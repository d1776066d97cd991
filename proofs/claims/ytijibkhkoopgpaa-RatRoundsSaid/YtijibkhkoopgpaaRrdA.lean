/-
  The law: its function printed as a pure function, its contract, the plain law, the statement
-/
import Derived.Test.YtijibkhkoopgpaaRbE
import Derived.Test.YtijibkhkoopgpaaRows
set_option linter.unusedVariables false
/-
  GP: the law RatMakes.
-/
namespace Go.FL
open Go Go.Proofs

end Go.FL
/-
  GP: the law RatReckons.
-/
namespace Go.FL
open Go Go.Proofs

end Go.FL
/-
  GP: the law RatOrders.
-/
namespace Go.FL
open Go Go.Proofs

end Go.FL
/-
  GP: the law RatRounds.
-/
namespace Go.FL
open Go Go.Proofs

def law02_RatRounds (a0 : RT) : Option (Bool) := ((rat_Neg a0).bind fun x1 => ((ref02_Neg a0).bind fun x2 => (law02_live.bind fun x3 => (Option.bind ((if x3 = true then ((law02_same x1.1 x1.2 x2.1 x2.2).bind fun x5 => (some (!x5))) else (some true)) : Option (Bool)) fun (z3 : Bool) => (if z3 = true then (some (false)) else ((rat_Abs a0).bind fun x6 => ((ref02_Abs a0).bind fun x7 => ((law02_same x6.1 x6.2 x7.1 x7.2).bind fun x8 => (if x8 = true then ((rat_Ceil a0).bind fun x9 => ((ref02_Ceil a0).bind fun x10 => ((law02_same x9.1 x9.2 x10.1 x10.2).bind fun x11 => (if x11 = true then ((rat_Floor a0).bind fun x12 => ((ref02_Floor a0).bind fun x13 => ((law02_same x12.1 x12.2 x13.1 x13.2).bind fun x14 => (if x14 = true then (if x12.2 = 0 then ((rat_Sub a0 x12.1).bind fun x15 => (Option.bind ((if x15.2 = 0 then ((rat_Sign x15.1).bind fun x17 => (if 0 ≤ x17 then ((ratOfInt 1).bind fun x18 => ((rat_Compare x15.1 x18).bind fun x19 => (some (decide (x19 < 0))))) else (some false))) else (some false)) : Option (Bool)) fun (z16 : Bool) => (some (z16)))) else (some (true))) else (some (false)))))) else (some (false)))))) else (some (false)))))))))))
theorem law02_RatRounds_ok {a0 : RT} {r : Bool} (h : law02_RatRounds a0 = some r) :
    Fn Try.prog 13 [.ag [.b a0.1, .sl (L a0.2.1), .sl (L a0.2.2)]] (.d (.b r)) := by
  unfold law02_RatRounds at h
  refine Fn.of (rs := [.tmp 2]) (nt := 98) Try.func13 rfl rfl rfl (by simp) rfl ?_
  refine .seq ?_
  refine .region ?_
  refine vk (vbx) ?_
  refine asd ?_
  refine rn ?_
  refine .gh (Gh.keep [1, 2] rfl) ?_
  refine .seq ?_
  refine .region ?_
  refine vk (vlda gA_R gS_R) ?_
  obtain ⟨x1, hx1, h⟩ := bnd h
  refine vk (VOK.tupd (vs := [.ag [.b x1.1.1, .sl (L x1.1.2.1), .sl (L x1.1.2.2)], .i .i64 x1.2]) (vcl0 (rat_Neg_ok hx1) Try.call50)) ?_
  refine vk (vmvd) ?_
  refine vk (vex) ?_
  refine vk (vex) ?_
  refine vk (van (zero_of gI_R) gZ_R) ?_
  refine stn ?_ gS_R (by decide)
  refine asd ?_
  refine rn ?_
  refine .gh (Gh.keep [1, 2, 3, 4] rfl) ?_
  refine .seq ?_
  refine .region ?_
  refine vk (vlda gA_R gS_R) ?_
  obtain ⟨x2, hx2, h⟩ := bnd h
  refine vk (VOK.tupd (vs := [.ag [.b x2.1.1, .sl (L x2.1.2.1), .sl (L x2.1.2.2)], .i .i64 x2.2]) (vcl0 (ref02_Neg_ok hx2) Try.call51)) ?_
  refine vk (vmvd) ?_
  refine vk (vex) ?_
  refine vk (vex) ?_
  refine vk (van (zero_of gI_R) gZ_R) ?_
  refine stn ?_ gS_R (by decide)
  refine asd ?_
  refine rn ?_
  refine .gh (Gh.keep [1, 2, 3, 4, 5, 6] rfl) ?_
  refine .seq ?_
  refine .seq ?_
  obtain ⟨x3, hx3, h⟩ := bnd h
  obtain ⟨z3, hz, h⟩ := bnd h
  refine AW.mr (σ := Unit) (fun _ => True) (fun _ => [(1, .d (.ptr [.b a0.1, .sl (L a0.2.1), .sl (L a0.2.2)])), (2, .d (.b false)), (3, .nb [.b x1.1.1, .sl (L x1.1.2.1), .sl (L x1.1.2.2)]), (5, .nb [.b x2.1.1, .sl (L x2.1.2.1), .sl (L x2.1.2.2)]), (28, .d (.b z3))]) (fun _ => []) ?_ ?_
  · skip
    refine .region ?_
    refine vk (vcl0 (law02_live_ok hx3) Try.call15) ?_
    refine vk (vnt) ?_
    by_cases hc : x3 = true
    · replace hz := ite_t hc hz
      have hb0 : (!x3) = false := (ntf hc)
      refine vk (VOK.lit (vmvd) hb0) ?_
      refine vk (vldn gA_R gS_R) ?_
      refine vk (vmvd) ?_
      refine vk (vldn gA_R gS_R) ?_
      refine vk (vmvd) ?_
      obtain ⟨x5, hx5, hz⟩ := bnd hz
      refine vk (vcl0 (law02_same_ok hx5) Try.call18) ?_
      refine vk (vnt) ?_
      refine vk (vpkd) ?_
      refine RL.gh (Gh.keep [1, 2, 3, 5, 28] rfl) ?_
      refine .nil ?_
      cases hz
      exact jr () trivial
    replace hz := ite_f hc hz
    have hb0 : (!x3) = true := (ntt (bf hc))
    refine vk (VOK.lit (vmvd) hb0) ?_
    refine gf ?_
    refine gf ?_
    refine gf ?_
    refine gf ?_
    refine gf ?_
    refine gf ?_
    refine vk (vpkd) ?_
    refine RL.gh (Gh.keep [1, 2, 3, 5, 28] rfl) ?_
    refine .nil ?_
    cases hz
    exact jr () trivial
  rintro _ _
  by_cases hc : z3 = true
  · replace h := ite_t hc h
    refine cnt hc ?_
    refine .seq ?_
    refine .region ?_
    refine asd ?_
    refine rn ?_
    refine .gh (Gh.keep [1, 2, 3, 5] rfl) ?_
    refine .ret ?_
    cases h
    exact ⟨rfl, rfl⟩
  replace h := ite_f hc h
  refine cnf (bf hc) ?_
  refine .skip ?_
  show AW _ _ _ _ _ _
  refine .seq ?_
  refine .region ?_
  refine vk (vlda gA_R gS_R) ?_
  obtain ⟨x6, hx6, h⟩ := bnd h
  refine vk (VOK.tupd (vs := [.ag [.b x6.1.1, .sl (L x6.1.2.1), .sl (L x6.1.2.2)], .i .i64 x6.2]) (vcl0 (rat_Abs_ok hx6) Try.call52)) ?_
  refine vk (vmvd) ?_
  refine vk (vex) ?_
  refine vk (vex) ?_
  refine stn ?_ gS_R (by decide)
  refine asd ?_
  refine rn ?_
  refine .gh (Gh.keep [1, 2, 3, 4, 5] rfl) ?_
  refine .seq ?_
  refine .region ?_
  refine vk (vlda gA_R gS_R) ?_
  obtain ⟨x7, hx7, h⟩ := bnd h
  refine vk (VOK.tupd (vs := [.ag [.b x7.1.1, .sl (L x7.1.2.1), .sl (L x7.1.2.2)], .i .i64 x7.2]) (vcl0 (ref02_Abs_ok hx7) Try.call53)) ?_
  refine vk (vmvd) ?_
  refine vk (vex) ?_
  refine vk (vex) ?_
  refine stn ?_ gS_R (by decide)
  refine asd ?_
  refine rn ?_
  refine .gh (Gh.keep [1, 2, 3, 4, 5, 6] rfl) ?_
  refine .seq ?_
  refine .seq ?_
  refine .region ?_
  refine vk (vldn gA_R gS_R) ?_
  refine vk (vmvd) ?_
  refine vk (vldn gA_R gS_R) ?_
  refine vk (vmvd) ?_
  obtain ⟨x8, hx8, h⟩ := bnd h
  refine vk (vcl0 (law02_same_ok hx8) Try.call18) ?_
  refine vk (vnt) ?_
  refine rn ?_
  refine .gh (Gh.keep [1, 2, 3, 5, 44] rfl) ?_
  by_cases hc : x8 = true
  · replace h := ite_t hc h
    refine cnf (ntf hc) ?_
    refine .skip ?_
    show AW _ _ _ _ _ _
    refine .seq ?_
    refine .region ?_
    refine vk (vlda gA_R gS_R) ?_
    obtain ⟨x9, hx9, h⟩ := bnd h
    refine vk (VOK.tupd (vs := [.ag [.b x9.1.1, .sl (L x9.1.2.1), .sl (L x9.1.2.2)], .i .i64 x9.2]) (vcl0 (rat_Ceil_ok hx9) Try.call54)) ?_
    refine vk (vmvd) ?_
    refine vk (vex) ?_
    refine vk (vex) ?_
    refine stn ?_ gS_R (by decide)
    refine asd ?_
    refine rn ?_
    refine .gh (Gh.keep [1, 2, 3, 4, 5] rfl) ?_
    refine .seq ?_
    refine .region ?_
    refine vk (vlda gA_R gS_R) ?_
    obtain ⟨x10, hx10, h⟩ := bnd h
    refine vk (VOK.tupd (vs := [.ag [.b x10.1.1, .sl (L x10.1.2.1), .sl (L x10.1.2.2)], .i .i64 x10.2]) (vcl0 (ref02_Ceil_ok hx10) Try.call55)) ?_
    refine vk (vmvd) ?_
    refine vk (vex) ?_
    refine vk (vex) ?_
    refine stn ?_ gS_R (by decide)
    refine asd ?_
    refine rn ?_
    refine .gh (Gh.keep [1, 2, 3, 4, 5, 6] rfl) ?_
    refine .seq ?_
    refine .seq ?_
    refine .region ?_
    refine vk (vldn gA_R gS_R) ?_
    refine vk (vmvd) ?_
    refine vk (vldn gA_R gS_R) ?_
    refine vk (vmvd) ?_
    obtain ⟨x11, hx11, h⟩ := bnd h
    refine vk (vcl0 (law02_same_ok hx11) Try.call18) ?_
    refine vk (vnt) ?_
    refine rn ?_
    refine .gh (Gh.keep [1, 2, 3, 5, 60] rfl) ?_
    by_cases hc : x11 = true
    · replace h := ite_t hc h
      refine cnf (ntf hc) ?_
      refine .skip ?_
      show AW _ _ _ _ _ _
      refine .seq ?_
      refine .region ?_
      refine vk (vlda gA_R gS_R) ?_
      obtain ⟨x12, hx12, h⟩ := bnd h
      refine vk (VOK.tupd (vs := [.ag [.b x12.1.1, .sl (L x12.1.2.1), .sl (L x12.1.2.2)], .i .i64 x12.2]) (vcl0 (rat_Floor_ok hx12) Try.call56)) ?_
      refine vk (vmvd) ?_
      refine vk (vex) ?_
      refine vk (vex) ?_
      refine stn ?_ gS_R (by decide)
      refine asd ?_
      refine rn ?_
      refine .gh (Gh.keep [1, 2, 3, 4, 5] rfl) ?_
      refine .seq ?_
      refine .region ?_
      refine vk (vlda gA_R gS_R) ?_
      obtain ⟨x13, hx13, h⟩ := bnd h
      refine vk (VOK.tupd (vs := [.ag [.b x13.1.1, .sl (L x13.1.2.1), .sl (L x13.1.2.2)], .i .i64 x13.2]) (vcl0 (ref02_Floor_ok hx13) Try.call57)) ?_
      refine vk (vmvd) ?_
      refine vk (vex) ?_
      refine vk (vex) ?_
      refine stn ?_ gS_R (by decide)
      refine asd ?_
      refine rn ?_
      refine .gh (Gh.keep [1, 2, 3, 4, 5, 6] rfl) ?_
      refine .seq ?_
      refine .seq ?_
      refine .region ?_
      refine vk (vldn gA_R gS_R) ?_
      refine vk (vmvd) ?_
      refine vk (vldn gA_R gS_R) ?_
      refine vk (vmvd) ?_
      obtain ⟨x14, hx14, h⟩ := bnd h
      refine vk (vcl0 (law02_same_ok hx14) Try.call18) ?_
      refine vk (vnt) ?_
      refine rn ?_
      refine .gh (Gh.keep [1, 2, 3, 4, 76] rfl) ?_
      by_cases hc : x14 = true
      · replace h := ite_t hc h
        refine cnf (ntf hc) ?_
        refine .skip ?_
        show AW _ _ _ _ _ _
        refine .seq ?_
        refine .seq ?_
        refine .region ?_
        refine vk (vmvd) ?_
        refine vk (vbi) ?_
        refine rn ?_
        refine .gh (Gh.keep [1, 2, 3, 78] rfl) ?_
        by_cases hc : x12.2 = 0
        · replace h := ite_t hc h
          refine cnf (ntf (decide_eq_true hc)) ?_
          refine .skip ?_
          show AW _ _ _ _ _ _
          refine .seq ?_
          refine .region ?_
          refine vk (vlda gA_R gS_R) ?_
          refine vk (vldn gA_R gS_R) ?_
          obtain ⟨x15, hx15, h⟩ := bnd h
          refine vk (VOK.tupd (vs := [.ag [.b x15.1.1, .sl (L x15.1.2.1), .sl (L x15.1.2.2)], .i .i64 x15.2]) (vcl0 (rat_Sub_ok hx15) Try.call43)) ?_
          refine vk (vmvd) ?_
          refine vk (vex) ?_
          refine vk (vex) ?_
          refine vk (van (zero_of gI_R) gZ_R) ?_
          refine stn ?_ gS_R (by decide)
          refine asd ?_
          refine rn ?_
          refine .gh (Gh.keep [2, 7, 8] rfl) ?_
          refine .seq ?_
          obtain ⟨z16, hz, h⟩ := bnd h
          refine AW.mr (σ := Unit) (fun _ => True) (fun _ => [(2, .d (.b z16))]) (fun _ => []) ?_ ?_
          · skip
            refine .drawn 13 mixed (by kernel_rfl) ?_
            refine dv (vmvd) ?_
            refine dv (vbi) ?_
            by_cases hc : x15.2 = 0
            · replace hz := ite_t hc hz
              have hb0 : (decide (x15.2 = 0)) = true := (decide_eq_true hc)
              refine dv (VOK.lit (vmvd) hb0) ?_
              refine dv (vldn gA_R gS_R) ?_
              obtain ⟨x17, hx17, hz⟩ := bnd hz
              refine dv (vcl0 (rat_Sign_ok hx17) Try.call30) ?_
              refine dv (vbi) ?_
              refine dv (vpkd) ?_
              by_cases hc : 0 ≤ x17
              · replace hz := ite_t hc hz
                have hb1 : (decide (0 ≤ x17)) = true := (decide_eq_true hc)
                refine dv (VOK.lit (vmvd) hb1) ?_
                refine dv (vldn gA_R gS_R) ?_
                obtain ⟨x18, hx18, hz⟩ := bnd hz
                refine dv (vcl0 (ratOfInt_ok hx18) Try.call28) ?_
                obtain ⟨x19, hx19, hz⟩ := bnd hz
                refine dv (vcl0 (rat_Compare_ok hx19) Try.call38) ?_
                refine dv (vbi) ?_
                refine dv (vpkd) ?_
                refine dz ?_
                refine asd ?_
                refine RL.gh (Gh.keep [2] rfl) ?_
                refine .nil ?_
                cases hz
                exact jr () trivial
              replace hz := ite_f hc hz
              have hb1 : (decide (0 ≤ x17)) = false := (decide_eq_false hc)
              refine dv (VOK.lit (vmvd) hb1) ?_
              refine dgf ?_
              refine dgf ?_
              refine dgf ?_
              refine dgf ?_
              refine dv (vpkd) ?_
              refine dz ?_
              refine asd ?_
              refine RL.gh (Gh.keep [2] rfl) ?_
              refine .nil ?_
              cases hz
              exact jr () trivial
            replace hz := ite_f hc hz
            have hb0 : (decide (x15.2 = 0)) = false := (decide_eq_false hc)
            refine dv (VOK.lit (vmvd) hb0) ?_
            refine dgf ?_
            refine dgf ?_
            refine dgf ?_
            refine dv (vpkd) ?_
            refine dv (vmvd) ?_
            refine dgf ?_
            refine dgf ?_
            refine dgf ?_
            refine dgf ?_
            refine dv (vpkd) ?_
            refine dz ?_
            refine asd ?_
            refine RL.gh (Gh.keep [2] rfl) ?_
            refine .nil ?_
            cases hz
            exact jr () trivial
          rintro _ _
          refine .ret ?_
          cases h
          exact ⟨rfl, rfl⟩
        replace h := ite_f hc h
        refine cnt (ntt (decide_eq_false hc)) ?_
        refine .seq ?_
        refine .region ?_
        refine asd ?_
        refine rn ?_
        refine .gh (Gh.keep [1, 2, 3] rfl) ?_
        refine .ret ?_
        cases h
        exact ⟨rfl, rfl⟩
      replace h := ite_f hc h
      refine cnt (ntt (bf hc)) ?_
      refine .seq ?_
      refine .region ?_
      refine asd ?_
      refine rn ?_
      refine .gh (Gh.keep [1, 2, 3, 4] rfl) ?_
      refine .ret ?_
      cases h
      exact ⟨rfl, rfl⟩
    replace h := ite_f hc h
    refine cnt (ntt (bf hc)) ?_
    refine .seq ?_
    refine .region ?_
    refine asd ?_
    refine rn ?_
    refine .gh (Gh.keep [1, 2, 3, 5] rfl) ?_
    refine .ret ?_
    cases h
    exact ⟨rfl, rfl⟩
  replace h := ite_f hc h
  refine cnt (ntt (bf hc)) ?_
  refine .seq ?_
  refine .region ?_
  refine asd ?_
  refine rn ?_
  refine .gh (Gh.keep [1, 2, 3, 5] rfl) ?_
  refine .ret ?_
  cases h
  exact ⟨rfl, rfl⟩
end Go.FL
/-
  Plain laws, rat 7: RatMakes, RatReckons, RatOrders, RatRounds.
-/
namespace Go.FL
open Go Go.Proofs

theorem ofQ_len {p : Rat} (h : fits p) : (ofQ p).2.1.length ≤ 1048576 ∧ (ofQ p).2.2.length ≤ 1048576 := ⟨Nat.le_trans h.1 (by decide), Nat.le_trans h.2 (by decide)⟩
/-- An answer whose number is not too long. -/
def okA (x : RT × Int) : Prop := x.1.2.1.length ≤ 1048576 ∧ x.1.2.2.length ≤ 1048576
theorem okA_bad (e : Int) : okA (bad e) := ⟨Nat.zero_le _, Nat.zero_le _⟩
theorem okA_of {p : Rat} (h : fits p) (e : Int) : okA (ofQ p, e) := ofQ_len h
theorem okA_res (p : Rat) : okA (resR p) := by
  by_cases h : fits p
  · rw [resR_fits h]; exact okA_of h 0
  · rw [resR_not h]; exact okA_bad 8
theorem same_refl {x : RT × Int} (h : okA x) : law02_same x.1 x.2 x.1 x.2 = some true := by rw [same_eq (Nat.le_trans h.1 (by decide)) (Nat.le_trans h.2 (by decide))]; simp
theorem cmp_lt {p q : Rat} : cmpR p q < 0 ↔ p < q := by
  unfold cmpR
  by_cases h : p < q
  · rw [if_pos h]; simp [h]
  · rw [if_neg h]
    by_cases h2 : p = q
    · rw [if_pos h2]; simp [h]
    · rw [if_neg h2]; simp [h]
theorem lawRounds {a : RT} (ha : okRB a = true) : law02_RatRounds a = some true := by
  unfold law02_RatRounds
  rcases right_cases (r := a) with h | ⟨p, hp, rfl⟩
  · rw [neg_b ha h, Option.bind_some, ref_negF_b ha h, Option.bind_some, live_eq, Option.bind_some, if_pos rfl, same_refl (okA_bad 22), Option.bind_some, Option.bind_some, if_neg (by decide),
      abs_b ha h, Option.bind_some, ref_abs_b ha h, Option.bind_some, same_refl (okA_bad 22), Option.bind_some, if_pos rfl, ceil_b ha h, Option.bind_some, ref_ceil_b ha h, Option.bind_some, same_refl (okA_bad 22), Option.bind_some, if_pos rfl,
      floor_b ha h, Option.bind_some, ref_floor_b ha h, Option.bind_some, same_refl (okA_bad 22), Option.bind_some, if_pos rfl, if_neg (by decide)]
  · have habs : okA ((false, digs p.num.natAbs, digs p.den), 0) := ⟨Nat.le_trans hp.1 (by decide), Nat.le_trans hp.2 (by decide)⟩
    rw [neg_q hp, Option.bind_some, ref_negF_q hp, Option.bind_some, live_eq, Option.bind_some, if_pos rfl, same_refl (okA_of (fits_neg hp) 0), Option.bind_some, Option.bind_some, if_neg (by decide),
      abs_q hp, Option.bind_some, ref_abs_q hp, Option.bind_some, same_refl habs, Option.bind_some, if_pos rfl, ceil_q hp, Option.bind_some, ref_ceil_q hp, Option.bind_some, same_refl (okA_res _), Option.bind_some, if_pos rfl,
      floor_q hp, Option.bind_some, ref_floor_q hp, Option.bind_some, same_refl (okA_res _), Option.bind_some, if_pos rfl]
    by_cases hf : fits (p.floor : Rat)
    · rw [resR_fits hf, if_pos rfl, sub_q hp hf, Option.bind_some]
      have h1 : (p.floor : Rat) ≤ p := Rat.floor_le p
      have h2 : p < ((p.floor + 1 : Int) : Rat) := Rat.lt_floor_add_one p
      have h3 : p - (p.floor : Rat) < 1 := by rw [Rat.sub_lt_iff]; simpa [Rat.add_comm] using h2
      have h4 : 0 ≤ p - (p.floor : Rat) := (Rat.le_iff_sub_nonneg _ _).1 h1
      have hfit : fits (p - (p.floor : Rat)) := by
        have e : p - (p.floor : Rat) = mkRat (p.num % p.den) p.den := by
          rw [Rat.sub_def']
          refine mkRat_eq (by simpa using p.den_nz) p.den_nz ?_
          have e1 := Int.mul_ediv_add_emod p.num p.den
          rw [Rat.floor_def]
          simp only [Rat.num_intCast, Rat.den_intCast]
          have : p.num - p.num / ↑p.den * ↑p.den = p.num % ↑p.den := by rw [Int.mul_comm]; omega
          simp [this]
        have hm := Int.emod_nonneg p.num (show (p.den : Int) ≠ 0 by have := p.den_nz; omega)
        have hm2 := Int.emod_lt_of_pos p.num (show (p.den : Int) > 0 by have := p.den_nz; omega)
        rw [e]
        constructor
        · show small _
          rw [Rat.num_mkRat, if_neg p.den_nz]
          refine Nat.le_trans (digs_mono ?_) hp.2
          have := Int.natAbs_ediv_le_natAbs (p.num % p.den) (p.den.gcd (p.num % p.den).natAbs : Int)
          omega
        · show small _
          rw [Rat.den_mkRat, if_neg p.den_nz]
          exact Nat.le_trans (digs_mono (Nat.div_le_self _ _)) hp.2
      rw [resR_fits hfit, if_pos rfl, sign_q hfit, Option.bind_some]
      have hs : 0 ≤ cmpR (p - (p.floor : Rat)) 0 := by
        rcases cmpR_vals (p - (p.floor : Rat)) 0 with h | h | h
        · have := cmp_lt.1 (show cmpR (p - (p.floor : Rat)) 0 < 0 by omega)
          exact absurd this (Rat.not_lt.2 h4)
        · omega
        · omega
      rw [if_pos hs, ofInt_q (z := 1) (by decide) (by decide), Option.bind_some, show ofQ ((1 : Int) : Rat) = ofQ 1 from rfl, compare_q hfit fits_one, Option.bind_some, decide_eq_true (cmp_lt.2 h3)]; rfl
    · rw [resR_not hf, if_neg (by decide)]
end Go.FL
/-
  The statement RatRoundsSaid: for every input the law gives true, and each argument reads as it read before.
-/
namespace Go.Proofs.Ytijibkhkoopgpaa.ratRounds
open Go.ChangeShapes Go.WideShapes Go.ChangeAt Go.RowKit Go.FL

theorem own : ownKnob Try.prog.godebug = none := by kernel_rfl
theorem laid : laidOutB Try.prog = true := by kernel_rfl
theorem params : ∀ t ∈ Try.f13.params.toList, Try.prog.readableRec t = true ∧ t < Try.prog.types.size := by
  intro t ht
  simp only [Try.params13, List.mem_cons, List.not_mem_nil, or_false] at ht
  rcases ht with rfl <;> exact ⟨by kernel_rfl, of_decide_eq_true (by kernel_rfl)⟩
set_option maxRecDepth 100000 in
theorem lifted (os : Os) (started : os.Started) (H : Type) (enc : TypeId × Value → H) :
    ReturnsInHanded {} Try.checked os 13 .any (Rows.ratRoundsSpec.pre6 enc Try.prog Try.f13 Rows.ratRoundsRow.domain false) (Rows.ratRoundsSpec.post enc Try.prog Try.f13 false true false false) := by
  refine returnsInHanded_of_change_sized (C := Try.checked) own started (by kernel_rfl) Try.func13
    (ChangeSpec.witness6 (enc := enc) (C := Try.checked) false ⟨#[], #[.agg #[.bool false, .slice none 0 0, .slice none 0 0]], []⟩ 8 (by kernel_rfl) (by kernel_rfl) (by kernel_rfl) (by kernel_rfl)) ?_
  intro W base args ds gs before hval0 hW hcnd hsz _
  have hval : ∀ (j : Nat) t v, Try.f13.params[j]? = some t → args[j]? = some v → Value.okWide Try.prog W .any base t v := hval0
  have hW' := hW
  obtain ⟨p, q, hA0, hV, rfl, hfz, hnd⟩ := hW
  have hA : DataW.TrodAll enc Try.prog W 0 (fun _ => true) true Try.f13.params.toList args.toList ds p := hA0
  rw [Try.params13] at hA hval
  obtain ⟨v0, vs0, d0, ds0, p0, q0, hargs, rfl, rfl, h0, r0⟩ := trodAll_cons hA
  obtain ⟨rfl, rfl, rfl⟩ := trodAll_nil r0
  obtain rfl : args = #[v0] := by cases args; simp_all
  obtain ⟨rfl, rfl⟩ := trodVars_none hV
  rw [Try.params13] at hsz
  have w0 : ∀ m ∈ DataW.weights Try.prog 25 d0, m ≤ reachBytes := fun m hm => by simpa using List.all_eq_true.1 hsz m (DataW.weights_mem_each (j := 0) rfl rfl m hm)
  obtain ⟨a0, o0, e0⟩ := arg_agg (v := v0) op_rat (let ⟨cs, h, _⟩ := okWide_struct (P := Try.prog) Try.underlying25 (hval 0 25 v0 rfl rfl); ⟨cs, h⟩) h0 w0
  refine (law_calls (law02_RatRounds_ok (lawRounds o0)) (.cons e0 .nil)).mono fun e W' ⟨he, hb⟩ => ?_
  subst he
  exact ⟨_, rfl, post_law hW' rfl (fun _ => rfl) rfl Try.underlying4 laid params hb⟩

theorem over : Rows.ratRoundsRow.holds Try.pinned (OpenSpec.ofChange Rows.ratRoundsSpec) :=
  OpenClaim.holds_of_wide 13 Try.f13 rfl rfl rfl rfl rfl rfl rfl ⟨rfl, rfl, rfl, rfl, rfl⟩ rfl rfl rfl rfl rfl (by kernel_rfl) Try.func13 (by kernel_rfl)
    (of_decide_eq_true (by kernel_rfl)) (by unfold Func.isWrapper; first | (rw [if_pos (by decide +kernel)]; kernel_rfl) | (rw [if_neg (by decide +kernel)]; exact ⟨rfl, rfl⟩))
    (fun os started H enc _ => lifted os started H enc)

theorem proved : Rows.RatRoundsSaid :=
  over
end Go.Proofs.Ytijibkhkoopgpaa.ratRounds
