/-
  The law: its function printed as a pure function, its contract, the plain law, the statement
-/
import Derived.Test.YtijibkhkoopgpaaRdE
import Derived.Test.YtijibkhkoopgpaaRows
set_option linter.unusedVariables false
/-
  GP: the law RatMakes.
-/
namespace Go.FL
open Go Go.Proofs

end Go.FL
/-
  GP: the law RatReckons.
-/
namespace Go.FL
open Go Go.Proofs

end Go.FL
/-
  GP: the law RatOrders.
-/
namespace Go.FL
open Go Go.Proofs

end Go.FL
/-
  GP: the law RatRounds.
-/
namespace Go.FL
open Go Go.Proofs

end Go.FL
/-
  Plain laws, rat 7: RatMakes, RatReckons, RatOrders, RatRounds.
-/
namespace Go.FL
open Go Go.Proofs

theorem cmp_eq {p q : Rat} : cmpR p q = 0 ↔ p = q := by
  unfold cmpR
  by_cases h : p < q
  · rw [if_pos h]; constructor
    · intro h; omega
    · rintro rfl; exact absurd h Rat.lt_irrefl
  · rw [if_neg h]
    by_cases h2 : p = q
    · rw [if_pos h2]; simp [h2]
    · rw [if_neg h2]; simp [h2]
end Go.FL
/-
  GP: the law RatBack.
-/
namespace Go.FL
open Go Go.Proofs

end Go.FL
/-
  GP: the law RatResidues.
-/
namespace Go.FL
open Go Go.Proofs

end Go.FL
/-
  Plain laws, rat 8: RatBack, RatResidues.
-/
namespace Go.FL
open Go Go.Proofs

end Go.FL
/-
  GP: the law RatCompares.
-/
namespace Go.FL
open Go Go.Proofs

end Go.FL
/-
  Plain laws, rat 9: RatCompares.
-/
namespace Go.FL
open Go Go.Proofs

def absR (p : Rat) : Rat := if p < 0 then -p else p
def maxA (p q : Rat) : Rat := if absR p < absR q then absR q else absR p
def within (c p q : Rat) : Prop := absR (p - q) ≤ c * maxA p q
instance (c p q : Rat) : Decidable (within c p q) := inferInstanceAs (Decidable (_ ≤ _))
end Go.FL
/-
  Plain laws, rat 10: RatCompares, the reference's side and the law.
-/
namespace Go.FL
open Go Go.Proofs

end Go.FL
/-
  GP: the law RatPowers.
-/
namespace Go.FL
open Go Go.Proofs

end Go.FL
/-
  Plain laws, rat 11: powers, RatPowers.
-/
namespace Go.FL
open Go Go.Proofs

theorem equal_digs {m n : Nat} (hm : (digs m).length ≤ 1048576) (hn : (digs n).length ≤ 1048576) : sEqualL (digs m) (digs n) = some (decide (m = n)) := by
  rw [equalL_eq (okL_digs hm) (okL_digs (by omega))]
  congr 1
  exact decide_eq_decide.2 ⟨digs_inj, fun h => by rw [h]⟩
end Go.FL
/-
  GP: the law TopField.
-/
namespace Go.FL
open Go Go.Proofs

def top_TopField (a0 : RT) (a1 : RT) (a2 : RT) : Option (Bool) := ((ratAdd ([a1, a2])).bind fun x1 => ((ratMul ([a0, x1.1])).bind fun x2 => ((ratMul ([a0, a1])).bind fun x3 => ((ratMul ([a0, a2])).bind fun x4 => ((ratAdd ([x3.1, x4.1])).bind fun x5 => ((rat_Div a0 a0).bind fun x6 => ((ratRight a0).bind fun x7 => (if x7 = true then (Option.bind ((if x6.2 = 0 then ((rat_Print x6.1).bind fun x9 => (some (!(decide (x9 = (⟨#[49]⟩ : ByteArray)))))) else (some true)) : Option (Bool)) fun (z8 : Bool) => (if z8 = true then (some (false)) else (if ((!(decide (x1.2 = 0))) || ((!(decide (x2.2 = 0))) || ((!(decide (x3.2 = 0))) || ((!(decide (x4.2 = 0))) || (!(decide (x5.2 = 0))))))) = true then ((nRight a0.2.1).bind fun x10 => (some (x10))) else ((rat_Compare x2.1 x5.1).bind fun x11 => (Option.bind ((if x11 = 0 then ((rat_Print x2.1).bind fun x13 => ((rat_Print x5.1).bind fun x14 => (some (decide (x13 = x14))))) else (some false)) : Option (Bool)) fun (z11 : Bool) => (some (z11))))))) else (some (((decide (x6.2 = 22)) && (decide (x3.2 = 22)))))))))))))
theorem top_TopField_ok {a0 : RT} {a1 : RT} {a2 : RT} {r : Bool} (h : top_TopField a0 a1 a2 = some r) :
    Fn Try.prog 6 [.ag [.b a0.1, .sl (L a0.2.1), .sl (L a0.2.2)], .ag [.b a1.1, .sl (L a1.2.1), .sl (L a1.2.2)], .ag [.b a2.1, .sl (L a2.2.1), .sl (L a2.2.2)]] (.d (.b r)) := by
  unfold top_TopField at h
  refine Fn.of (rs := [.tmp 6]) (nt := 108) Try.func6 rfl rfl rfl (by simp) rfl ?_
  refine .seq ?_
  refine .region ?_
  refine vk (vbx) ?_
  refine vk (vbx) ?_
  refine vk (vbx) ?_
  refine asd ?_
  refine rn ?_
  refine .gh (Gh.keep [3, 4, 5, 6] rfl) ?_
  refine .seq ?_
  refine .region ?_
  refine vk (vlda gA_R gS_R) ?_
  refine vk (vlda gA_R gS_R) ?_
  refine vk ((vbsl (RVs_flat [a1, a2]) ge_RVs).deep) ?_
  obtain ⟨x1, hx1, h⟩ := bnd h
  refine vk (VOK.tupd (vs := [.ag [.b x1.1.1, .sl (L x1.1.2.1), .sl (L x1.1.2.2)], .i .i64 x1.2]) (vcl0 (ratAdd_ok hx1) Try.call34)) ?_
  refine vk (vmvd) ?_
  refine vk (vex) ?_
  refine vk (vex) ?_
  refine vk (van (zero_of gI_R) gZ_R) ?_
  refine stn ?_ gS_R (by decide)
  refine asd ?_
  refine rn ?_
  refine .gh (Gh.keep [3, 4, 5, 6, 7, 8] rfl) ?_
  refine .seq ?_
  refine .region ?_
  refine vk (vlda gA_R gS_R) ?_
  refine vk (vldn gA_R gS_R) ?_
  refine vk ((vbsl (RVs_flat [a0, x1.1]) ge_RVs).deep) ?_
  obtain ⟨x2, hx2, h⟩ := bnd h
  refine vk (VOK.tupd (vs := [.ag [.b x2.1.1, .sl (L x2.1.2.1), .sl (L x2.1.2.2)], .i .i64 x2.2]) (vcl0 (ratMul_ok hx2) Try.call35)) ?_
  refine vk (vmvd) ?_
  refine vk (vex) ?_
  refine vk (vex) ?_
  refine vk (van (zero_of gI_R) gZ_R) ?_
  refine stn ?_ gS_R (by decide)
  refine asd ?_
  refine rn ?_
  refine .gh (Gh.keep [3, 4, 5, 6, 8, 9, 10] rfl) ?_
  refine .seq ?_
  refine .region ?_
  refine vk (vlda gA_R gS_R) ?_
  refine vk (vlda gA_R gS_R) ?_
  refine vk ((vbsl (RVs_flat [a0, a1]) ge_RVs).deep) ?_
  obtain ⟨x3, hx3, h⟩ := bnd h
  refine vk (VOK.tupd (vs := [.ag [.b x3.1.1, .sl (L x3.1.2.1), .sl (L x3.1.2.2)], .i .i64 x3.2]) (vcl0 (ratMul_ok hx3) Try.call35)) ?_
  refine vk (vmvd) ?_
  refine vk (vex) ?_
  refine vk (vex) ?_
  refine vk (van (zero_of gI_R) gZ_R) ?_
  refine stn ?_ gS_R (by decide)
  refine asd ?_
  refine rn ?_
  refine .gh (Gh.keep [3, 5, 6, 8, 9, 10, 11, 12] rfl) ?_
  refine .seq ?_
  refine .region ?_
  refine vk (vlda gA_R gS_R) ?_
  refine vk (vlda gA_R gS_R) ?_
  refine vk ((vbsl (RVs_flat [a0, a2]) ge_RVs).deep) ?_
  obtain ⟨x4, hx4, h⟩ := bnd h
  refine vk (VOK.tupd (vs := [.ag [.b x4.1.1, .sl (L x4.1.2.1), .sl (L x4.1.2.2)], .i .i64 x4.2]) (vcl0 (ratMul_ok hx4) Try.call35)) ?_
  refine vk (vmvd) ?_
  refine vk (vex) ?_
  refine vk (vex) ?_
  refine vk (van (zero_of gI_R) gZ_R) ?_
  refine stn ?_ gS_R (by decide)
  refine asd ?_
  refine rn ?_
  refine .gh (Gh.keep [3, 6, 8, 9, 10, 11, 12, 13, 14] rfl) ?_
  refine .seq ?_
  refine .region ?_
  refine vk (vldn gA_R gS_R) ?_
  refine vk (vldn gA_R gS_R) ?_
  refine vk ((vbsl (RVs_flat [x3.1, x4.1]) ge_RVs).deep) ?_
  obtain ⟨x5, hx5, h⟩ := bnd h
  refine vk (VOK.tupd (vs := [.ag [.b x5.1.1, .sl (L x5.1.2.1), .sl (L x5.1.2.2)], .i .i64 x5.2]) (vcl0 (ratAdd_ok hx5) Try.call34)) ?_
  refine vk (vmvd) ?_
  refine vk (vex) ?_
  refine vk (vex) ?_
  refine vk (van (zero_of gI_R) gZ_R) ?_
  refine stn ?_ gS_R (by decide)
  refine asd ?_
  refine rn ?_
  refine .gh (Gh.keep [3, 6, 8, 9, 10, 12, 14, 15, 16] rfl) ?_
  refine .seq ?_
  refine .region ?_
  refine vk (vlda gA_R gS_R) ?_
  refine vk (vlda gA_R gS_R) ?_
  obtain ⟨x6, hx6, h⟩ := bnd h
  refine vk (VOK.tupd (vs := [.ag [.b x6.1.1, .sl (L x6.1.2.1), .sl (L x6.1.2.2)], .i .i64 x6.2]) (vcl0 (rat_Div_ok hx6) Try.call36)) ?_
  refine vk (vmvd) ?_
  refine vk (vex) ?_
  refine vk (vex) ?_
  refine vk (van (zero_of gI_R) gZ_R) ?_
  refine stn ?_ gS_R (by decide)
  refine asd ?_
  refine rn ?_
  refine .gh (Gh.keep [3, 6, 8, 9, 10, 12, 14, 15, 16, 17, 18] rfl) ?_
  refine .seq ?_
  refine .seq ?_
  refine .region ?_
  refine vk (vlda gA_R gS_R) ?_
  obtain ⟨x7, hx7, h⟩ := bnd h
  refine vk (vcl0 (ratRight_ok hx7) Try.call19) ?_
  refine vk (vnt) ?_
  refine rn ?_
  refine .gh (Gh.keep [3, 6, 8, 9, 10, 12, 14, 15, 16, 17, 18, 62] rfl) ?_
  by_cases hc : x7 = true
  · replace h := ite_t hc h
    refine cnf (ntf hc) ?_
    refine .skip ?_
    show AW _ _ _ _ _ _
    refine .seq ?_
    refine .seq ?_
    obtain ⟨z8, hz, h⟩ := bnd h
    refine AW.mr (σ := Unit) (fun _ => True) (fun _ => [(3, .d (.ptr [.b a0.1, .sl (L a0.2.1), .sl (L a0.2.2)])), (6, .d (.b false)), (8, .d (.i .i64 x1.2)), (9, .nb [.b x2.1.1, .sl (L x2.1.2.1), .sl (L x2.1.2.2)]), (10, .d (.i .i64 x2.2)), (12, .d (.i .i64 x3.2)), (14, .d (.i .i64 x4.2)), (15, .nb [.b x5.1.1, .sl (L x5.1.2.1), .sl (L x5.1.2.2)]), (16, .d (.i .i64 x5.2)), (75, .d (.b z8))]) (fun _ => []) ?_ ?_
    · skip
      refine .region ?_
      refine vk (vmvd) ?_
      refine vk (vbi) ?_
      by_cases hc : x6.2 = 0
      · replace hz := ite_t hc hz
        have hb0 : (!(decide (x6.2 = 0))) = false := (ntf (decide_eq_true hc))
        refine vk (VOK.lit (vmvd) hb0) ?_
        refine vk (vldn gA_R gS_R) ?_
        obtain ⟨x9, hx9, hz⟩ := bnd hz
        refine vk (vcl0 (rat_Print_ok hx9) Try.call23) ?_
        refine vk (vsq (.inr rfl)) ?_
        refine vk (vpkd) ?_
        refine RL.gh (Gh.keep [3, 6, 8, 9, 10, 12, 14, 15, 16, 75] rfl) ?_
        refine .nil ?_
        cases hz
        exact jr () trivial
      replace hz := ite_f hc hz
      have hb0 : (!(decide (x6.2 = 0))) = true := (ntt (decide_eq_false hc))
      refine vk (VOK.lit (vmvd) hb0) ?_
      refine gf ?_
      refine gf ?_
      refine gf ?_
      refine vk (vpkd) ?_
      refine RL.gh (Gh.keep [3, 6, 8, 9, 10, 12, 14, 15, 16, 75] rfl) ?_
      refine .nil ?_
      cases hz
      exact jr () trivial
    rintro _ _
    by_cases hc : z8 = true
    · replace h := ite_t hc h
      refine cnt hc ?_
      refine .seq ?_
      refine .region ?_
      refine asd ?_
      refine rn ?_
      refine .gh (Gh.keep [3, 6, 8, 9, 10, 12, 14, 15, 16] rfl) ?_
      refine .ret ?_
      cases h
      exact ⟨rfl, rfl⟩
    replace h := ite_f hc h
    refine cnf (bf hc) ?_
    refine .skip ?_
    show AW _ _ _ _ _ _
    refine .seq ?_
    refine .seq ?_
    refine AW.mr (σ := Unit) (fun _ => True) (fun _ => [(3, .d (.ptr [.b a0.1, .sl (L a0.2.1), .sl (L a0.2.2)])), (6, .d (.b false)), (9, .nb [.b x2.1.1, .sl (L x2.1.2.1), .sl (L x2.1.2.2)]), (15, .nb [.b x5.1.1, .sl (L x5.1.2.1), .sl (L x5.1.2.2)]), (93, .d (.b ((!(decide (x1.2 = 0))) || ((!(decide (x2.2 = 0))) || ((!(decide (x3.2 = 0))) || ((!(decide (x4.2 = 0))) || (!(decide (x5.2 = 0)))))))))]) (fun _ => []) ?_ ?_
    · skip
      refine .region ?_
      refine vk (vmvd) ?_
      refine vk (vbi) ?_
      by_cases hc : x1.2 = 0
      · have hb0 : (!(decide (x1.2 = 0))) = false := (ntf (decide_eq_true hc))
        refine vk (VOK.lit (vmvd) hb0) ?_
        refine vk (vmvd) ?_
        refine vk (vbi) ?_
        refine vk (vpkd) ?_
        by_cases hc : x2.2 = 0
        · have hb1 : (!(decide (x2.2 = 0))) = false := (ntf (decide_eq_true hc))
          refine vk (VOK.lit (vmvd) hb1) ?_
          refine vk (vmvd) ?_
          refine vk (vbi) ?_
          refine vk (vpkd) ?_
          by_cases hc : x3.2 = 0
          · have hb2 : (!(decide (x3.2 = 0))) = false := (ntf (decide_eq_true hc))
            refine vk (VOK.lit (vmvd) hb2) ?_
            refine vk (vmvd) ?_
            refine vk (vbi) ?_
            refine vk (vpkd) ?_
            by_cases hc : x4.2 = 0
            · have hb3 : (!(decide (x4.2 = 0))) = false := (ntf (decide_eq_true hc))
              refine vk (VOK.lit (vmvd) hb3) ?_
              refine vk (vmvd) ?_
              refine vk (vbi) ?_
              refine vk (vpkd) ?_
              refine RL.gh (Gh.keep [3, 6, 9, 15, 93] rfl) ?_
              refine .nil ?_
              exact jr () trivial (by simp only [hb0, hb1, hb2, hb3]; rfl)
            have hb3 : (!(decide (x4.2 = 0))) = true := (ntt (decide_eq_false hc))
            refine vk (VOK.lit (vmvd) hb3) ?_
            refine gf ?_
            refine gf ?_
            refine vk (vpkd) ?_
            refine RL.gh (Gh.keep [3, 6, 9, 15, 93] rfl) ?_
            refine .nil ?_
            exact jr () trivial (by simp only [hb0, hb1, hb2, hb3]; rfl)
          have hb2 : (!(decide (x3.2 = 0))) = true := (ntt (decide_eq_false hc))
          refine vk (VOK.lit (vmvd) hb2) ?_
          refine gf ?_
          refine gf ?_
          refine vk (vpkd) ?_
          refine vk (vmvd) ?_
          refine gf ?_
          refine gf ?_
          refine vk (vpkd) ?_
          refine RL.gh (Gh.keep [3, 6, 9, 15, 93] rfl) ?_
          refine .nil ?_
          exact jr () trivial (by simp only [hb0, hb1, hb2]; rfl)
        have hb1 : (!(decide (x2.2 = 0))) = true := (ntt (decide_eq_false hc))
        refine vk (VOK.lit (vmvd) hb1) ?_
        refine gf ?_
        refine gf ?_
        refine vk (vpkd) ?_
        refine vk (vmvd) ?_
        refine gf ?_
        refine gf ?_
        refine vk (vpkd) ?_
        refine vk (vmvd) ?_
        refine gf ?_
        refine gf ?_
        refine vk (vpkd) ?_
        refine RL.gh (Gh.keep [3, 6, 9, 15, 93] rfl) ?_
        refine .nil ?_
        exact jr () trivial (by simp only [hb0, hb1]; rfl)
      have hb0 : (!(decide (x1.2 = 0))) = true := (ntt (decide_eq_false hc))
      refine vk (VOK.lit (vmvd) hb0) ?_
      refine gf ?_
      refine gf ?_
      refine vk (vpkd) ?_
      refine vk (vmvd) ?_
      refine gf ?_
      refine gf ?_
      refine vk (vpkd) ?_
      refine vk (vmvd) ?_
      refine gf ?_
      refine gf ?_
      refine vk (vpkd) ?_
      refine vk (vmvd) ?_
      refine gf ?_
      refine gf ?_
      refine vk (vpkd) ?_
      refine RL.gh (Gh.keep [3, 6, 9, 15, 93] rfl) ?_
      refine .nil ?_
      exact jr () trivial (by simp only [hb0]; rfl)
    rintro _ _
    by_cases hc : ((!(decide (x1.2 = 0))) || ((!(decide (x2.2 = 0))) || ((!(decide (x3.2 = 0))) || ((!(decide (x4.2 = 0))) || (!(decide (x5.2 = 0))))))) = true
    · replace h := ite_t hc h
      refine cnt hc ?_
      refine .seq ?_
      refine .region ?_
      refine vk (vfa gF_R_1) ?_
      refine vk (vldp ga_L) ?_
      obtain ⟨x10, hx10, h⟩ := bnd h
      refine vk (vcl0 (nRight_ok hx10) Try.call37) ?_
      refine asd ?_
      refine rn ?_
      refine .gh (Gh.keep [6, 9, 15] rfl) ?_
      refine .ret ?_
      cases h
      exact ⟨rfl, rfl⟩
    replace h := ite_f hc h
    refine cnf (bf hc) ?_
    refine .skip ?_
    show AW _ _ _ _ _ _
    refine .seq ?_
    obtain ⟨x11, hx11, h⟩ := bnd h
    obtain ⟨z11, hz, h⟩ := bnd h
    refine AW.mr (σ := Unit) (fun _ => True) (fun _ => [(6, .d (.b z11))]) (fun _ => []) ?_ ?_
    · skip
      refine .drawn 11 mixed (by kernel_rfl) ?_
      refine dv (vldn gA_R gS_R) ?_
      refine dv (vldn gA_R gS_R) ?_
      refine dv (vcl0 (rat_Compare_ok hx11) Try.call38) ?_
      refine dv (vbi) ?_
      by_cases hc : x11 = 0
      · replace hz := ite_t hc hz
        have hb0 : (decide (x11 = 0)) = true := (decide_eq_true hc)
        refine dv (VOK.lit (vmvd) hb0) ?_
        refine dv (vldn gA_R gS_R) ?_
        obtain ⟨x13, hx13, hz⟩ := bnd hz
        refine dv (vcl0 (rat_Print_ok hx13) Try.call23) ?_
        refine dv (vldn gA_R gS_R) ?_
        obtain ⟨x14, hx14, hz⟩ := bnd hz
        refine dv (vcl0 (rat_Print_ok hx14) Try.call23) ?_
        refine dv (vsq (.inl rfl)) ?_
        refine dv (vpkd) ?_
        refine dz ?_
        refine asd ?_
        refine RL.gh (Gh.keep [6] rfl) ?_
        refine .nil ?_
        cases hz
        exact jr () trivial
      replace hz := ite_f hc hz
      have hb0 : (decide (x11 = 0)) = false := (decide_eq_false hc)
      refine dv (VOK.lit (vmvd) hb0) ?_
      refine dgf ?_
      refine dgf ?_
      refine dgf ?_
      refine dgf ?_
      refine dgf ?_
      refine dv (vpkd) ?_
      refine dz ?_
      refine asd ?_
      refine RL.gh (Gh.keep [6] rfl) ?_
      refine .nil ?_
      cases hz
      exact jr () trivial
    rintro _ _
    refine .ret ?_
    cases h
    exact ⟨rfl, rfl⟩
  replace h := ite_f hc h
  refine cnt (ntt (bf hc)) ?_
  refine .seq ?_
  refine AW.mr (σ := Unit) (fun _ => True) (fun _ => [(3, .d (.ptr [.b a0.1, .sl (L a0.2.1), .sl (L a0.2.2)])), (6, .d (.b ((decide (x6.2 = 22)) && (decide (x3.2 = 22))))), (8, .d (.i .i64 x1.2)), (9, .nb [.b x2.1.1, .sl (L x2.1.2.1), .sl (L x2.1.2.2)]), (10, .d (.i .i64 x2.2)), (12, .d (.i .i64 x3.2)), (14, .d (.i .i64 x4.2)), (15, .nb [.b x5.1.1, .sl (L x5.1.2.1), .sl (L x5.1.2.2)]), (16, .d (.i .i64 x5.2)), (17, .nb [.b x6.1.1, .sl (L x6.1.2.1), .sl (L x6.1.2.2)]), (18, .d (.i .i64 x6.2))]) (fun _ => []) ?_ ?_
  · skip
    refine .region ?_
    refine vk (vmvd) ?_
    refine vk (vbi) ?_
    by_cases hc : x6.2 = 22
    · have hb0 : (decide (x6.2 = 22)) = true := (decide_eq_true hc)
      refine vk (VOK.lit (vmvd) hb0) ?_
      refine vk (vmvd) ?_
      refine vk (vbi) ?_
      refine vk (vpkd) ?_
      refine asd ?_
      refine RL.gh (Gh.keep [3, 6, 8, 9, 10, 12, 14, 15, 16, 17, 18] rfl) ?_
      refine .nil ?_
      exact jr () trivial (by simp only [hb0]; rfl)
    have hb0 : (decide (x6.2 = 22)) = false := (decide_eq_false hc)
    refine vk (VOK.lit (vmvd) hb0) ?_
    refine gf ?_
    refine gf ?_
    refine vk (vpkd) ?_
    refine asd ?_
    refine RL.gh (Gh.keep [3, 6, 8, 9, 10, 12, 14, 15, 16, 17, 18] rfl) ?_
    refine .nil ?_
    exact jr () trivial (by simp only [hb0]; rfl)
  rintro _ _
  refine .ret ?_
  cases h
  exact ⟨rfl, rfl⟩
end Go.FL
/-
  Plain laws, rat 12: printing a number, TopField.
-/
namespace Go.FL
open Go Go.Proofs

theorem nPrint_eq {n : Nat} (h : (digs n).length ≤ 1048576) : nPrint (digs n) = some (bstr (decT n)) := by
  unfold nPrint; rw [if_pos (okL_digs h), val_digs]
/-- The text of a number. -/
def txtQ (p : Rat) : List Nat := (if p.num < 0 then [194, 175] else []) ++ (decT p.num.natAbs ++ (if p.den = 1 then [] else 114 :: decT p.den))
theorem sap_eq {a b : List Nat} (h : a.length + b.length ≤ 100000) : sap? (bstr a) (bstr b) = some (bstr (a ++ b)) := by
  unfold sap?
  rw [if_pos, bstr_append]
  have h1 : ∀ l : List Nat, (bstr l).size = l.length := fun l => by simp [bstr, ByteArray.size]
  rw [h1, h1]; exact Nat.le_trans h (by decide)
theorem small_lt {n : Nat} (h : small n) : n < 4294967296 ^ 32 := by
  have := val_lt (digs_ok n)
  rw [val_digs] at this
  exact Nat.lt_of_lt_of_le this (Nat.pow_le_pow_right (by decide) h)
set_option exponentiation.threshold 2000 in
theorem small_dec {n : Nat} (h : small n) : (decT n).length ≤ 310 := decT_len (k := 309) (Nat.lt_trans (small_lt h) (by decide))
theorem print_q {p : Rat} (hp : fits p) : rat_Print (ofQ p) = some (bstr (txtQ p)) := by
  unfold rat_Print
  have l1 := small_dec hp.1
  have l2 := small_dec hp.2
  have e1 : nPrint (ofQ p).2.1 = some (bstr (decT p.num.natAbs)) := nPrint_eq (Nat.le_trans hp.1 (by decide))
  have e2 : nPrint (ofQ p).2.2 = some (bstr (decT p.den)) := nPrint_eq (Nat.le_trans hp.2 (by decide))
  have e3 : sEqualL (ofQ p).2.2 [1] = some (decide (p.den = 1)) := by rw [← one_digs]; exact equal_digs (Nat.le_trans hp.2 (by decide)) (by rw [one_digs]; decide)
  have s1 : sap? (⟨#[194, 175]⟩ : ByteArray) (bstr (decT p.num.natAbs)) = some (bstr ([194, 175] ++ decT p.num.natAbs)) := sap_eq (a := [194, 175]) (by simp; omega)
  have s2 : sap? (⟨#[114]⟩ : ByteArray) (bstr (decT p.den)) = some (bstr ([114] ++ decT p.den)) := sap_eq (a := [114]) (by simp; omega)
  rw [ratRight_eq (ofQ_okRB hp), ofQ_right hp, Option.bind_some, if_pos rfl, e1, Option.bind_some, ratOne_eq]
  show (if decide (p.num < 0) = true then _ else _) = _
  unfold txtQ
  by_cases hs : p.num < 0
  · rw [if_pos (decide_eq_true hs), s1, Option.bind_some, Option.bind_some, e3, Option.bind_some, if_pos hs]
    by_cases hd : p.den = 1
    · rw [if_pos (decide_eq_true hd), if_pos hd, List.append_nil]
    · rw [if_neg (by simpa using hd), e2, Option.bind_some, s2, Option.bind_some, sap_eq (by simp; omega), Option.bind_some, if_neg hd, List.append_assoc]; rfl
  · rw [if_neg (by simpa using hs), Option.bind_some, e3, Option.bind_some, if_neg hs, List.nil_append]
    by_cases hd : p.den = 1
    · rw [if_pos (decide_eq_true hd), if_pos hd, List.append_nil]
    · rw [if_neg (by simpa using hd), e2, Option.bind_some, s2, Option.bind_some, sap_eq (by simp; omega), Option.bind_some, if_neg hd]; rfl
theorem txt_one : txtQ 1 = [49] := by
  have : decT 1 = [49] := by decide +kernel
  show ([] : List Nat) ++ (decT 1 ++ []) = [49]
  rw [this]; rfl
theorem live_right {p : Rat} (hp : fits p) : nRight (ofQ p).2.1 = some true := by
  have : nRight (ofQ p).2.1 = some (decide (digs (val (digs p.num.natAbs)) = digs p.num.natAbs)) := if_pos (okL_digs (Nat.le_trans hp.1 (by decide)))
  rw [this, val_digs, decide_eq_true rfl]
/-- An answer is a number and code 0, or the empty number and an error's code. -/
def ans (x : RT × Int) : Prop := (∃ p, fits p ∧ x = (ofQ p, 0)) ∨ (∃ e, e ≠ 0 ∧ x = bad e)
theorem ans_res (p : Rat) : ans (resR p) := by
  by_cases h : fits p
  · exact .inl ⟨p, h, resR_fits h⟩
  · exact .inr ⟨8, by decide, resR_not h⟩
theorem ans_ok {x : RT × Int} (h : ans x) : okRB x.1 = true := by
  rcases h with ⟨p, hp, rfl⟩ | ⟨e, _, rfl⟩
  · exact ofQ_okRB hp
  · rfl
theorem add_ans {a b : RT} (ha : okRB a = true) (hb : okRB b = true) : ∃ x, ratAdd [a, b] = some x ∧ ans x := by
  rcases two_cases (a := a) (b := b) with h | ⟨p, q, hp, hq, rfl, rfl⟩
  · exact ⟨_, add_b (by simp [ha, hb]) (by simp) (by simpa using h), .inr ⟨22, by decide, rfl⟩⟩
  · exact ⟨_, add2_q hp hq, ans_res _⟩
theorem mul_ans {a b : RT} (ha : okRB a = true) (hb : okRB b = true) : ∃ x, ratMul [a, b] = some x ∧ ans x := by
  rcases two_cases (a := a) (b := b) with h | ⟨p, q, hp, hq, rfl, rfl⟩
  · exact ⟨_, mul_b (by simp [ha, hb]) (by simp) (by simpa using h), .inr ⟨22, by decide, rfl⟩⟩
  · exact ⟨_, mul2_q hp hq, ans_res _⟩
theorem ans_zero {x : RT × Int} (h : ans x) (h0 : x.2 = 0) : ∃ p, fits p ∧ x = (ofQ p, 0) := by
  rcases h with h | ⟨e, he, rfl⟩
  · exact h
  · exact absurd h0 he
theorem bad_mul {a b : RT} (ha : okRB a = true) (hb : okRB b = true) (h : (rightR a && rightR b) = false) : ratMul [a, b] = some (bad 22) := mul_b (by simp [ha, hb]) (by simp) (by simpa using h)
theorem bad_add {a b : RT} (ha : okRB a = true) (hb : okRB b = true) (h : (rightR a && rightR b) = false) : ratAdd [a, b] = some (bad 22) := add_b (by simp [ha, hb]) (by simp) (by simpa using h)
theorem lawField {a b c : RT} (ha : okRB a = true) (hb : okRB b = true) (hc : okRB c = true) : top_TopField a b c = some true := by
  unfold top_TopField
  obtain ⟨x1, e1, n1⟩ := add_ans hb hc
  obtain ⟨x2, e2, n2⟩ := mul_ans ha (ans_ok n1)
  obtain ⟨x3, e3, n3⟩ := mul_ans ha hb
  obtain ⟨x4, e4, n4⟩ := mul_ans ha hc
  obtain ⟨x5, e5, n5⟩ := add_ans (ans_ok n3) (ans_ok n4)
  rw [e1, Option.bind_some, e2, Option.bind_some, e3, Option.bind_some, e4, Option.bind_some, e5, Option.bind_some]
  rcases right_cases (r := a) with h | ⟨p, hp, rfl⟩
  · rw [div_b ha ha (by rw [h]; rfl), Option.bind_some, ratRight_eq ha, h, Option.bind_some, if_neg (by decide)]
    rw [bad_mul ha hb (by rw [h]; rfl)] at e3
    cases e3; rfl
  have hd : rat_Div (ofQ p) (ofQ p) = some (ofQ 1, 0) := by
    rw [div_q hp hp]
    by_cases h0 : p = 0
    · rw [if_pos h0, if_pos h0]
    · rw [if_neg h0, Rat.div_def, Rat.mul_inv_cancel _ h0, resR_fits fits_one]
  rw [hd, Option.bind_some, ratRight_eq ha, ofQ_right hp, Option.bind_some, if_pos rfl, if_pos rfl, print_q fits_one, Option.bind_some, txt_one]
  rw [show decide (bstr [49] = (⟨#[49]⟩ : ByteArray)) = true from rfl, Bool.not_true, Option.bind_some, if_neg (by decide)]
  by_cases h : x1.2 = 0 ∧ x2.2 = 0 ∧ x3.2 = 0 ∧ x4.2 = 0 ∧ x5.2 = 0
  · obtain ⟨h1, h2, h3, h4, h5⟩ := h
    rw [if_neg (by simp [h1, h2, h3, h4, h5])]
    obtain ⟨s, hs, rfl⟩ := ans_zero n1 h1
    obtain ⟨u, hu, rfl⟩ := ans_zero n2 h2
    obtain ⟨v, hv, rfl⟩ := ans_zero n3 h3
    obtain ⟨w, hw, rfl⟩ := ans_zero n4 h4
    obtain ⟨z, hz, rfl⟩ := ans_zero n5 h5
    have res_inj : ∀ {r t : Rat}, some (resR r) = some (ofQ t, 0) → r = t := fun {r t} e => by
      by_cases hf : fits r
      · rw [resR_fits hf] at e
        exact ofQ_inj (congrArg Prod.fst (Option.some.inj e))
      · rw [resR_not hf] at e
        exact absurd (show (8 : Int) = 0 from congrArg Prod.snd (Option.some.inj e)) (by decide)
    rcases two_cases (a := b) (b := c) with hbc | ⟨q, r, hq, hr, rfl, rfl⟩
    · rw [bad_add hb hc hbc] at e1
      exact absurd (show (22 : Int) = 0 from congrArg Prod.snd (Option.some.inj e1)) (by decide)
    rw [add2_q hq hr] at e1
    rw [mul2_q hp hs] at e2
    rw [mul2_q hp hq] at e3
    rw [mul2_q hp hr] at e4
    rw [add2_q hv hw] at e5
    have i1 := res_inj e1
    have i2 := res_inj e2
    have i3 := res_inj e3
    have i4 := res_inj e4
    have i5 := res_inj e5
    have huz : u = z := by rw [← i2, ← i5, ← i3, ← i4, ← i1, Rat.mul_add]
    subst huz
    rw [compare_q hu hu, Option.bind_some, if_pos (cmp_eq.2 rfl), print_q hu, Option.bind_some, Option.bind_some, decide_eq_true rfl]; rfl
  · rw [if_pos, live_right hp]
    · rfl
    · simp only [Bool.or_eq_true, Bool.not_eq_true', decide_eq_false_iff_not]
      by_cases h1 : x1.2 = 0
      · by_cases h2 : x2.2 = 0
        · by_cases h3 : x3.2 = 0
          · by_cases h4 : x4.2 = 0
            · exact .inr (.inr (.inr (.inr fun h5 => h ⟨h1, h2, h3, h4, h5⟩)))
            · exact .inr (.inr (.inr (.inl h4)))
          · exact .inr (.inr (.inl h3))
        · exact .inr (.inl h2)
      · exact .inl h1
end Go.FL
/-
  The statement TopFieldSaid: for every input the law gives true, and each argument reads as it read before.
-/
namespace Go.Proofs.Ytijibkhkoopgpaa.topField
open Go.ChangeShapes Go.WideShapes Go.ChangeAt Go.RowKit Go.FL

theorem own : ownKnob Try.prog.godebug = none := by kernel_rfl
theorem laid : laidOutB Try.prog = true := by kernel_rfl
theorem params : ∀ t ∈ Try.f6.params.toList, Try.prog.readableRec t = true ∧ t < Try.prog.types.size := by
  intro t ht
  simp only [Try.params6, List.mem_cons, List.not_mem_nil, or_false] at ht
  rcases ht with rfl | rfl | rfl <;> exact ⟨by kernel_rfl, of_decide_eq_true (by kernel_rfl)⟩
set_option maxRecDepth 100000 in
theorem lifted (os : Os) (started : os.Started) (H : Type) (enc : TypeId × Value → H) :
    ReturnsInHanded {} Try.checked os 6 .any (Rows.topFieldSpec.pre6 enc Try.prog Try.f6 Rows.topFieldRow.domain false) (Rows.topFieldSpec.post enc Try.prog Try.f6 false true false false) := by
  refine returnsInHanded_of_change_sized (C := Try.checked) own started (by kernel_rfl) Try.func6
    (ChangeSpec.witness6 (enc := enc) (C := Try.checked) false ⟨#[], #[.agg #[.bool false, .slice none 0 0, .slice none 0 0], .agg #[.bool false, .slice none 0 0, .slice none 0 0], .agg #[.bool false, .slice none 0 0, .slice none 0 0]], []⟩ 8 (by kernel_rfl) (by kernel_rfl) (by kernel_rfl) (by kernel_rfl)) ?_
  intro W base args ds gs before hval0 hW hcnd hsz _
  have hval : ∀ (j : Nat) t v, Try.f6.params[j]? = some t → args[j]? = some v → Value.okWide Try.prog W .any base t v := hval0
  have hW' := hW
  obtain ⟨p, q, hA0, hV, rfl, hfz, hnd⟩ := hW
  have hA : DataW.TrodAll enc Try.prog W 0 (fun _ => true) true Try.f6.params.toList args.toList ds p := hA0
  rw [Try.params6] at hA hval
  obtain ⟨v0, vs0, d0, ds0, p0, q0, hargs, rfl, rfl, h0, r0⟩ := trodAll_cons hA
  obtain ⟨v1, vs1, d1, ds1, p1, q1, rfl, rfl, rfl, h1, r1⟩ := trodAll_cons r0
  obtain ⟨v2, vs2, d2, ds2, p2, q2, rfl, rfl, rfl, h2, r2⟩ := trodAll_cons r1
  obtain ⟨rfl, rfl, rfl⟩ := trodAll_nil r2
  obtain rfl : args = #[v0, v1, v2] := by cases args; simp_all
  obtain ⟨rfl, rfl⟩ := trodVars_none hV
  rw [Try.params6] at hsz
  have w0 : ∀ m ∈ DataW.weights Try.prog 25 d0, m ≤ reachBytes := fun m hm => by simpa using List.all_eq_true.1 hsz m (DataW.weights_mem_each (j := 0) rfl rfl m hm)
  obtain ⟨a0, o0, e0⟩ := arg_agg (v := v0) op_rat (let ⟨cs, h, _⟩ := okWide_struct (P := Try.prog) Try.underlying25 (hval 0 25 v0 rfl rfl); ⟨cs, h⟩) h0 w0
  have w1 : ∀ m ∈ DataW.weights Try.prog 25 d1, m ≤ reachBytes := fun m hm => by simpa using List.all_eq_true.1 hsz m (DataW.weights_mem_each (j := 1) rfl rfl m hm)
  obtain ⟨a1, o1, e1⟩ := arg_agg (v := v1) op_rat (let ⟨cs, h, _⟩ := okWide_struct (P := Try.prog) Try.underlying25 (hval 1 25 v1 rfl rfl); ⟨cs, h⟩) h1 w1
  have w2 : ∀ m ∈ DataW.weights Try.prog 25 d2, m ≤ reachBytes := fun m hm => by simpa using List.all_eq_true.1 hsz m (DataW.weights_mem_each (j := 2) rfl rfl m hm)
  obtain ⟨a2, o2, e2⟩ := arg_agg (v := v2) op_rat (let ⟨cs, h, _⟩ := okWide_struct (P := Try.prog) Try.underlying25 (hval 2 25 v2 rfl rfl); ⟨cs, h⟩) h2 w2
  refine (law_calls (top_TopField_ok (lawField o0 o1 o2)) (.cons e0 (.cons e1 (.cons e2 .nil)))).mono fun e W' ⟨he, hb⟩ => ?_
  subst he
  exact ⟨_, rfl, post_law hW' rfl (fun _ => rfl) rfl Try.underlying4 laid params hb⟩

theorem over : Rows.topFieldRow.holds Try.pinned (OpenSpec.ofChange Rows.topFieldSpec) :=
  OpenClaim.holds_of_wide 6 Try.f6 rfl rfl rfl rfl rfl rfl rfl ⟨rfl, rfl, rfl, rfl, rfl⟩ rfl rfl rfl rfl rfl (by kernel_rfl) Try.func6 (by kernel_rfl)
    (of_decide_eq_true (by kernel_rfl)) (by unfold Func.isWrapper; first | (rw [if_pos (by decide +kernel)]; kernel_rfl) | (rw [if_neg (by decide +kernel)]; exact ⟨rfl, rfl⟩))
    (fun os started H enc _ => lifted os started H enc)

theorem proved : Rows.TopFieldSaid :=
  over
end Go.Proofs.Ytijibkhkoopgpaa.topField
