/-
  The law: its function printed as a pure function, its contract, the plain law, the statement
-/
import Derived.Test.YtijibkhkoopgpaaRdE
import Derived.Test.YtijibkhkoopgpaaRows
set_option linter.unusedVariables false
/-
  GP: the law RatMakes.
-/
namespace Go.FL
open Go Go.Proofs

end Go.FL
/-
  GP: the law RatReckons.
-/
namespace Go.FL
open Go Go.Proofs

end Go.FL
/-
  GP: the law RatOrders.
-/
namespace Go.FL
open Go Go.Proofs

end Go.FL
/-
  GP: the law RatRounds.
-/
namespace Go.FL
open Go Go.Proofs

end Go.FL
/-
  Plain laws, rat 7: RatMakes, RatReckons, RatOrders, RatRounds.
-/
namespace Go.FL
open Go Go.Proofs

theorem ref2Same_eq {a c : RT} (h1 : a.2.1.length ≤ 35184372087808) (h2 : a.2.2.length ≤ 35184372087808) : ref2Same a c = some (decide (a = c)) := if_pos (by rw [decide_eq_true h1, decide_eq_true h2]; rfl)
theorem ref2Same_self {a : RT} (ha : okRB a = true) : ref2Same a a = some true := by
  obtain ⟨_, _, h1, h2⟩ := okRB_iff.1 ha
  rw [ref2Same_eq h1 h2]; simp
theorem cmp_eq {p q : Rat} : cmpR p q = 0 ↔ p = q := by
  unfold cmpR
  by_cases h : p < q
  · rw [if_pos h]; constructor
    · intro h; omega
    · rintro rfl; exact absurd h Rat.lt_irrefl
  · rw [if_neg h]
    by_cases h2 : p = q
    · rw [if_pos h2]; simp [h2]
    · rw [if_neg h2]; simp [h2]
end Go.FL
/-
  GP: the law RatBack.
-/
namespace Go.FL
open Go Go.Proofs

def law02_RatBack (a0 : RT) (a1 : RT) : Option (Bool) := ((ratRight a0).bind fun x1 => (Option.bind ((if x1 = true then ((ratRight a1).bind fun x3 => (some (!x3))) else (some true)) : Option (Bool)) fun (z1 : Bool) => (if z1 = true then (law02_live.bind fun x4 => (some (x4))) else ((ratAdd ([a0, a1])).bind fun x5 => ((ratAdd ([a1, a0])).bind fun x6 => (Option.bind ((if x5.2 = x6.2 then (if x5.2 = 0 then ((ref2Same x5.1 x6.1).bind fun x8 => (some (!x8))) else (some false)) else (some true)) : Option (Bool)) fun (z7 : Bool) => (if z7 = true then (some (false)) else (if x5.2 = 0 then ((rat_Sub x5.1 a1).bind fun x9 => (Option.bind ((if x9.2 = 0 then ((ref2Same x9.1 a0).bind fun x11 => (some (!x11))) else (some true)) : Option (Bool)) fun (z10 : Bool) => (if z10 = true then (some (false)) else ((ratMul ([a0, a1])).bind fun x12 => (Option.bind ((if x12.2 = 0 then ((rat_Sign a1).bind fun x14 => (some (decide (x14 = 0)))) else (some true)) : Option (Bool)) fun (z13 : Bool) => (if z13 = true then (law02_live.bind fun x15 => (some (x15))) else ((rat_Div x12.1 a1).bind fun x16 => (law02_live.bind fun x17 => (Option.bind ((if x17 = true then (if x16.2 = 0 then ((ref2Same x16.1 a0).bind fun x19 => (some x19)) else (some false)) else (some false)) : Option (Bool)) fun (z17 : Bool) => (some (z17))))))))))) else ((ratMul ([a0, a1])).bind fun x20 => (Option.bind ((if x20.2 = 0 then ((rat_Sign a1).bind fun x22 => (some (decide (x22 = 0)))) else (some true)) : Option (Bool)) fun (z21 : Bool) => (if z21 = true then (law02_live.bind fun x23 => (some (x23))) else ((rat_Div x20.1 a1).bind fun x24 => (law02_live.bind fun x25 => (Option.bind ((if x25 = true then (if x24.2 = 0 then ((ref2Same x24.1 a0).bind fun x27 => (some x27)) else (some false)) else (some false)) : Option (Bool)) fun (z25 : Bool) => (some (z25))))))))))))))))
set_option maxHeartbeats 4000000 in
theorem law02_RatBack_ok {a0 : RT} {a1 : RT} {r : Bool} (h : law02_RatBack a0 a1 = some r) :
    Fn Try.prog 11 [.ag [.b a0.1, .sl (L a0.2.1), .sl (L a0.2.2)], .ag [.b a1.1, .sl (L a1.2.1), .sl (L a1.2.2)]] (.d (.b r)) := by
  unfold law02_RatBack at h
  refine Fn.of (rs := [.tmp 4]) (nt := 97) Try.func11 rfl rfl rfl (by simp) rfl ?_
  refine .seq ?_
  refine .region ?_
  refine vk (vbx) ?_
  refine vk (vbx) ?_
  refine asd ?_
  refine rn ?_
  refine .gh (Gh.keep [2, 3, 4] rfl) ?_
  refine .seq ?_
  refine .seq ?_
  obtain ⟨x1, hx1, h⟩ := bnd h
  obtain ⟨z1, hz, h⟩ := bnd h
  refine AW.mr (σ := Unit) (fun _ => True) (fun _ => [(2, .d (.ptr [.b a0.1, .sl (L a0.2.1), .sl (L a0.2.2)])), (3, .d (.ptr [.b a1.1, .sl (L a1.2.1), .sl (L a1.2.2)])), (4, .d (.b false)), (21, .d (.b z1))]) (fun _ => []) ?_ ?_
  · skip
    refine .region ?_
    refine vk (vlda gA_R gS_R) ?_
    refine vk (vcl0 (ratRight_ok hx1) Try.call19) ?_
    refine vk (vnt) ?_
    by_cases hc : x1 = true
    · replace hz := ite_t hc hz
      have hb0 : (!x1) = false := (ntf hc)
      refine vk (VOK.lit (vmvd) hb0) ?_
      refine vk (vlda gA_R gS_R) ?_
      obtain ⟨x3, hx3, hz⟩ := bnd hz
      refine vk (vcl0 (ratRight_ok hx3) Try.call19) ?_
      refine vk (vnt) ?_
      refine vk (vpkd) ?_
      refine RL.gh (Gh.keep [2, 3, 4, 21] rfl) ?_
      refine .nil ?_
      cases hz
      exact jr () trivial
    replace hz := ite_f hc hz
    have hb0 : (!x1) = true := (ntt (bf hc))
    refine vk (VOK.lit (vmvd) hb0) ?_
    refine gf ?_
    refine gf ?_
    refine gf ?_
    refine vk (vpkd) ?_
    refine RL.gh (Gh.keep [2, 3, 4, 21] rfl) ?_
    refine .nil ?_
    cases hz
    exact jr () trivial
  rintro _ _
  by_cases hc : z1 = true
  · replace h := ite_t hc h
    refine cnt hc ?_
    refine .seq ?_
    refine .region ?_
    obtain ⟨x4, hx4, h⟩ := bnd h
    refine vk (vcl0 (law02_live_ok hx4) Try.call15) ?_
    refine asd ?_
    refine rn ?_
    refine .gh (Gh.keep [2, 3, 4] rfl) ?_
    refine .ret ?_
    cases h
    exact ⟨rfl, rfl⟩
  replace h := ite_f hc h
  refine cnf (bf hc) ?_
  refine .skip ?_
  show AW _ _ _ _ _ _
  refine .seq ?_
  refine .region ?_
  refine vk (vlda gA_R gS_R) ?_
  refine vk (vlda gA_R gS_R) ?_
  refine vk ((vbsl (RVs_flat [a0, a1]) ge_RVs).deep) ?_
  obtain ⟨x5, hx5, h⟩ := bnd h
  refine vk (VOK.tupd (vs := [.ag [.b x5.1.1, .sl (L x5.1.2.1), .sl (L x5.1.2.2)], .i .i64 x5.2]) (vcl0 (ratAdd_ok hx5) Try.call34)) ?_
  refine vk (vmvd) ?_
  refine vk (vex) ?_
  refine vk (vex) ?_
  refine vk (van (zero_of gI_R) gZ_R) ?_
  refine stn ?_ gS_R (by decide)
  refine asd ?_
  refine rn ?_
  refine .gh (Gh.keep [2, 3, 4, 5, 6] rfl) ?_
  refine .seq ?_
  refine .region ?_
  refine vk (vlda gA_R gS_R) ?_
  refine vk (vlda gA_R gS_R) ?_
  refine vk ((vbsl (RVs_flat [a1, a0]) ge_RVs).deep) ?_
  obtain ⟨x6, hx6, h⟩ := bnd h
  refine vk (VOK.tupd (vs := [.ag [.b x6.1.1, .sl (L x6.1.2.1), .sl (L x6.1.2.2)], .i .i64 x6.2]) (vcl0 (ratAdd_ok hx6) Try.call34)) ?_
  refine vk (vmvd) ?_
  refine vk (vex) ?_
  refine vk (vex) ?_
  refine vk (van (zero_of gI_R) gZ_R) ?_
  refine stn ?_ gS_R (by decide)
  refine asd ?_
  refine rn ?_
  refine .gh (Gh.keep [2, 3, 4, 5, 6, 7, 8] rfl) ?_
  refine .seq ?_
  refine .seq ?_
  obtain ⟨z7, hz, h⟩ := bnd h
  refine AW.mr (σ := Unit) (fun _ => True) (fun _ => [(2, .d (.ptr [.b a0.1, .sl (L a0.2.1), .sl (L a0.2.2)])), (3, .d (.ptr [.b a1.1, .sl (L a1.2.1), .sl (L a1.2.2)])), (4, .d (.b false)), (5, .nb [.b x5.1.1, .sl (L x5.1.2.1), .sl (L x5.1.2.2)]), (6, .d (.i .i64 x5.2)), (49, .d (.b z7))]) (fun _ => []) ?_ ?_
  · skip
    refine .region ?_
    refine vk (vmvd) ?_
    refine vk (vmvd) ?_
    refine vk (vbi) ?_
    by_cases hc : x5.2 = x6.2
    · replace hz := ite_t hc hz
      have hb0 : (!(decide (x5.2 = x6.2))) = false := (ntf (decide_eq_true hc))
      refine vk (VOK.lit (vmvd) hb0) ?_
      refine vk (vmvd) ?_
      refine vk (vbi) ?_
      by_cases hc : x5.2 = 0
      · replace hz := ite_t hc hz
        have hb1 : (decide (x5.2 = 0)) = true := (decide_eq_true hc)
        refine vk (VOK.lit (vmvd) hb1) ?_
        refine vk (vldn gA_R gS_R) ?_
        refine vk (vldn gA_R gS_R) ?_
        obtain ⟨x8, hx8, hz⟩ := bnd hz
        refine vk (vcl0 (ref2Same_ok hx8) Try.call25) ?_
        refine vk (vnt) ?_
        refine vk (vpkd) ?_
        refine vk (vpkd) ?_
        refine RL.gh (Gh.keep [2, 3, 4, 5, 6, 49] rfl) ?_
        refine .nil ?_
        cases hz
        exact jr () trivial
      replace hz := ite_f hc hz
      have hb1 : (decide (x5.2 = 0)) = false := (decide_eq_false hc)
      refine vk (VOK.lit (vmvd) hb1) ?_
      refine gf ?_
      refine gf ?_
      refine gf ?_
      refine gf ?_
      refine vk (vpkd) ?_
      refine vk (vpkd) ?_
      refine RL.gh (Gh.keep [2, 3, 4, 5, 6, 49] rfl) ?_
      refine .nil ?_
      cases hz
      exact jr () trivial
    replace hz := ite_f hc hz
    have hb0 : (!(decide (x5.2 = x6.2))) = true := (ntt (decide_eq_false hc))
    refine vk (VOK.lit (vmvd) hb0) ?_
    refine gf ?_
    refine gf ?_
    refine gfu ?_
    refine gf ?_
    refine gf ?_
    refine gf ?_
    refine gf ?_
    refine gf ?_
    refine vk (vpkd) ?_
    refine RL.gh (Gh.keep [2, 3, 4, 5, 6, 49] rfl) ?_
    refine .nil ?_
    cases hz
    exact jr () trivial
  rintro _ _
  by_cases hc : z7 = true
  · replace h := ite_t hc h
    refine cnt hc ?_
    refine .seq ?_
    refine .region ?_
    refine asd ?_
    refine rn ?_
    refine .gh (Gh.keep [2, 3, 4, 5, 6] rfl) ?_
    refine .ret ?_
    cases h
    exact ⟨rfl, rfl⟩
  replace h := ite_f hc h
  refine cnf (bf hc) ?_
  refine .skip ?_
  show AW _ _ _ _ _ _
  refine .seq ?_
  refine .seq ?_
  refine .region ?_
  refine vk (vmvd) ?_
  refine vk (vbi) ?_
  refine rn ?_
  refine .gh (Gh.keep [2, 3, 4, 5, 51] rfl) ?_
  by_cases hc : x5.2 = 0
  · replace h := ite_t hc h
    refine cnt (decide_eq_true hc) ?_
    refine .seq ?_
    refine .region ?_
    refine vk (vldn gA_R gS_R) ?_
    refine vk (vlda gA_R gS_R) ?_
    obtain ⟨x9, hx9, h⟩ := bnd h
    refine vk (VOK.tupd (vs := [.ag [.b x9.1.1, .sl (L x9.1.2.1), .sl (L x9.1.2.2)], .i .i64 x9.2]) (vcl0 (rat_Sub_ok hx9) Try.call43)) ?_
    refine vk (vmvd) ?_
    refine vk (vex) ?_
    refine vk (vex) ?_
    refine vk (van (zero_of gI_R) gZ_R) ?_
    refine stn ?_ gS_R (by decide)
    refine asd ?_
    refine rn ?_
    refine .gh (Gh.keep [2, 3, 4, 9, 10] rfl) ?_
    refine .seq ?_
    obtain ⟨z10, hz, h⟩ := bnd h
    refine AW.mr (σ := Unit) (fun _ => True) (fun _ => [(2, .d (.ptr [.b a0.1, .sl (L a0.2.1), .sl (L a0.2.2)])), (3, .d (.ptr [.b a1.1, .sl (L a1.2.1), .sl (L a1.2.2)])), (4, .d (.b false)), (65, .d (.b z10))]) (fun _ => []) ?_ ?_
    · skip
      refine .region ?_
      refine vk (vmvd) ?_
      refine vk (vbi) ?_
      by_cases hc : x9.2 = 0
      · replace hz := ite_t hc hz
        have hb0 : (!(decide (x9.2 = 0))) = false := (ntf (decide_eq_true hc))
        refine vk (VOK.lit (vmvd) hb0) ?_
        refine vk (vldn gA_R gS_R) ?_
        refine vk (vlda gA_R gS_R) ?_
        obtain ⟨x11, hx11, hz⟩ := bnd hz
        refine vk (vcl0 (ref2Same_ok hx11) Try.call25) ?_
        refine vk (vnt) ?_
        refine vk (vpkd) ?_
        refine RL.gh (Gh.keep [2, 3, 4, 65] rfl) ?_
        refine .nil ?_
        cases hz
        exact jr () trivial
      replace hz := ite_f hc hz
      have hb0 : (!(decide (x9.2 = 0))) = true := (ntt (decide_eq_false hc))
      refine vk (VOK.lit (vmvd) hb0) ?_
      refine gf ?_
      refine gf ?_
      refine gf ?_
      refine gf ?_
      refine vk (vpkd) ?_
      refine RL.gh (Gh.keep [2, 3, 4, 65] rfl) ?_
      refine .nil ?_
      cases hz
      exact jr () trivial
    rintro _ _
    by_cases hc : z10 = true
    · replace h := ite_t hc h
      refine cnt hc ?_
      refine .seq ?_
      refine .region ?_
      refine asd ?_
      refine rn ?_
      refine .gh (Gh.keep [2, 3, 4] rfl) ?_
      refine .ret ?_
      cases h
      exact ⟨rfl, rfl⟩
    replace h := ite_f hc h
    refine cnf (bf hc) ?_
    refine .skip ?_
    show AW _ _ _ _ _ _
    refine .seq ?_
    refine .region ?_
    refine vk (vlda gA_R gS_R) ?_
    refine vk (vlda gA_R gS_R) ?_
    refine vk ((vbsl (RVs_flat [a0, a1]) ge_RVs).deep) ?_
    obtain ⟨x12, hx12, h⟩ := bnd h
    refine vk (VOK.tupd (vs := [.ag [.b x12.1.1, .sl (L x12.1.2.1), .sl (L x12.1.2.2)], .i .i64 x12.2]) (vcl0 (ratMul_ok hx12) Try.call35)) ?_
    refine vk (vmvd) ?_
    refine vk (vex) ?_
    refine vk (vex) ?_
    refine vk (van (zero_of gI_R) gZ_R) ?_
    refine stn ?_ gS_R (by decide)
    refine asd ?_
    refine rn ?_
    refine .gh (Gh.keep [2, 3, 4, 6, 11] rfl) ?_
    refine .seq ?_
    refine .seq ?_
    obtain ⟨z13, hz, h⟩ := bnd h
    refine AW.mr (σ := Unit) (fun _ => True) (fun _ => [(2, .d (.ptr [.b a0.1, .sl (L a0.2.1), .sl (L a0.2.2)])), (3, .d (.ptr [.b a1.1, .sl (L a1.2.1), .sl (L a1.2.2)])), (4, .d (.b false)), (11, .nb [.b x12.1.1, .sl (L x12.1.2.1), .sl (L x12.1.2.2)]), (79, .d (.b z13))]) (fun _ => []) ?_ ?_
    · skip
      refine .region ?_
      refine vk (vmvd) ?_
      refine vk (vbi) ?_
      by_cases hc : x12.2 = 0
      · replace hz := ite_t hc hz
        have hb0 : (!(decide (x12.2 = 0))) = false := (ntf (decide_eq_true hc))
        refine vk (VOK.lit (vmvd) hb0) ?_
        refine vk (vlda gA_R gS_R) ?_
        obtain ⟨x14, hx14, hz⟩ := bnd hz
        refine vk (vcl0 (rat_Sign_ok hx14) Try.call30) ?_
        refine vk (vbi) ?_
        refine vk (vpkd) ?_
        refine RL.gh (Gh.keep [2, 3, 4, 11, 79] rfl) ?_
        refine .nil ?_
        cases hz
        exact jr () trivial
      replace hz := ite_f hc hz
      have hb0 : (!(decide (x12.2 = 0))) = true := (ntt (decide_eq_false hc))
      refine vk (VOK.lit (vmvd) hb0) ?_
      refine gf ?_
      refine gf ?_
      refine gf ?_
      refine vk (vpkd) ?_
      refine RL.gh (Gh.keep [2, 3, 4, 11, 79] rfl) ?_
      refine .nil ?_
      cases hz
      exact jr () trivial
    rintro _ _
    by_cases hc : z13 = true
    · replace h := ite_t hc h
      refine cnt hc ?_
      refine .seq ?_
      refine .region ?_
      obtain ⟨x15, hx15, h⟩ := bnd h
      refine vk (vcl0 (law02_live_ok hx15) Try.call15) ?_
      refine asd ?_
      refine rn ?_
      refine .gh (Gh.keep [2, 3, 4, 11] rfl) ?_
      refine .ret ?_
      cases h
      exact ⟨rfl, rfl⟩
    replace h := ite_f hc h
    refine cnf (bf hc) ?_
    refine .skip ?_
    show AW _ _ _ _ _ _
    refine .seq ?_
    refine .region ?_
    refine vk (vldn gA_R gS_R) ?_
    refine vk (vlda gA_R gS_R) ?_
    obtain ⟨x16, hx16, h⟩ := bnd h
    refine vk (VOK.tupd (vs := [.ag [.b x16.1.1, .sl (L x16.1.2.1), .sl (L x16.1.2.2)], .i .i64 x16.2]) (vcl0 (rat_Div_ok hx16) Try.call36)) ?_
    refine vk (vmvd) ?_
    refine vk (vex) ?_
    refine vk (vex) ?_
    refine vk (van (zero_of gI_R) gZ_R) ?_
    refine stn ?_ gS_R (by decide)
    refine asd ?_
    refine rn ?_
    refine .gh (Gh.keep [2, 4, 12, 13] rfl) ?_
    refine .seq ?_
    obtain ⟨x17, hx17, h⟩ := bnd h
    obtain ⟨z17, hz, h⟩ := bnd h
    refine AW.mr (σ := Unit) (fun _ => True) (fun _ => [(4, .d (.b z17))]) (fun _ => []) ?_ ?_
    · skip
      refine .region ?_
      refine vk (vcl0 (law02_live_ok hx17) Try.call15) ?_
      by_cases hc : x17 = true
      · replace hz := ite_t hc hz
        have hb0 : x17 = true := hc
        refine vk (VOK.lit (vmvd) hb0) ?_
        refine vk (vmvd) ?_
        refine vk (vbi) ?_
        refine vk (vpkd) ?_
        by_cases hc : x16.2 = 0
        · replace hz := ite_t hc hz
          have hb1 : (decide (x16.2 = 0)) = true := (decide_eq_true hc)
          refine vk (VOK.lit (vmvd) hb1) ?_
          refine vk (vldn gA_R gS_R) ?_
          refine vk (vlda gA_R gS_R) ?_
          obtain ⟨x19, hx19, hz⟩ := bnd hz
          refine vk (vcl0 (ref2Same_ok hx19) Try.call25) ?_
          refine vk (vpkd) ?_
          refine asd ?_
          refine RL.gh (Gh.keep [4] rfl) ?_
          refine .nil ?_
          cases hz
          exact jr () trivial
        replace hz := ite_f hc hz
        have hb1 : (decide (x16.2 = 0)) = false := (decide_eq_false hc)
        refine vk (VOK.lit (vmvd) hb1) ?_
        refine gf ?_
        refine gf ?_
        refine gf ?_
        refine vk (vpkd) ?_
        refine asd ?_
        refine RL.gh (Gh.keep [4] rfl) ?_
        refine .nil ?_
        cases hz
        exact jr () trivial
      replace hz := ite_f hc hz
      have hb0 : x17 = false := (bf hc)
      refine vk (VOK.lit (vmvd) hb0) ?_
      refine gf ?_
      refine gf ?_
      refine vk (vpkd) ?_
      refine vk (vmvd) ?_
      refine gf ?_
      refine gf ?_
      refine gf ?_
      refine vk (vpkd) ?_
      refine asd ?_
      refine RL.gh (Gh.keep [4] rfl) ?_
      refine .nil ?_
      cases hz
      exact jr () trivial
    rintro _ _
    refine .ret ?_
    cases h
    exact ⟨rfl, rfl⟩
  replace h := ite_f hc h
  refine cnf (decide_eq_false hc) ?_
  refine .skip ?_
  show AW _ _ _ _ _ _
  refine .seq ?_
  refine .region ?_
  refine vk (vlda gA_R gS_R) ?_
  refine vk (vlda gA_R gS_R) ?_
  refine vk ((vbsl (RVs_flat [a0, a1]) ge_RVs).deep) ?_
  obtain ⟨x20, hx20, h⟩ := bnd h
  refine vk (VOK.tupd (vs := [.ag [.b x20.1.1, .sl (L x20.1.2.1), .sl (L x20.1.2.2)], .i .i64 x20.2]) (vcl0 (ratMul_ok hx20) Try.call35)) ?_
  refine vk (vmvd) ?_
  refine vk (vex) ?_
  refine vk (vex) ?_
  refine vk (van (zero_of gI_R) gZ_R) ?_
  refine stn ?_ gS_R (by decide)
  refine asd ?_
  refine rn ?_
  refine .gh (Gh.keep [2, 3, 4, 6, 11] rfl) ?_
  refine .seq ?_
  refine .seq ?_
  obtain ⟨z21, hz, h⟩ := bnd h
  refine AW.mr (σ := Unit) (fun _ => True) (fun _ => [(2, .d (.ptr [.b a0.1, .sl (L a0.2.1), .sl (L a0.2.2)])), (3, .d (.ptr [.b a1.1, .sl (L a1.2.1), .sl (L a1.2.2)])), (4, .d (.b false)), (11, .nb [.b x20.1.1, .sl (L x20.1.2.1), .sl (L x20.1.2.2)]), (79, .d (.b z21))]) (fun _ => []) ?_ ?_
  · skip
    refine .region ?_
    refine vk (vmvd) ?_
    refine vk (vbi) ?_
    by_cases hc : x20.2 = 0
    · replace hz := ite_t hc hz
      have hb0 : (!(decide (x20.2 = 0))) = false := (ntf (decide_eq_true hc))
      refine vk (VOK.lit (vmvd) hb0) ?_
      refine vk (vlda gA_R gS_R) ?_
      obtain ⟨x22, hx22, hz⟩ := bnd hz
      refine vk (vcl0 (rat_Sign_ok hx22) Try.call30) ?_
      refine vk (vbi) ?_
      refine vk (vpkd) ?_
      refine RL.gh (Gh.keep [2, 3, 4, 11, 79] rfl) ?_
      refine .nil ?_
      cases hz
      exact jr () trivial
    replace hz := ite_f hc hz
    have hb0 : (!(decide (x20.2 = 0))) = true := (ntt (decide_eq_false hc))
    refine vk (VOK.lit (vmvd) hb0) ?_
    refine gf ?_
    refine gf ?_
    refine gf ?_
    refine vk (vpkd) ?_
    refine RL.gh (Gh.keep [2, 3, 4, 11, 79] rfl) ?_
    refine .nil ?_
    cases hz
    exact jr () trivial
  rintro _ _
  by_cases hc : z21 = true
  · replace h := ite_t hc h
    refine cnt hc ?_
    refine .seq ?_
    refine .region ?_
    obtain ⟨x23, hx23, h⟩ := bnd h
    refine vk (vcl0 (law02_live_ok hx23) Try.call15) ?_
    refine asd ?_
    refine rn ?_
    refine .gh (Gh.keep [2, 3, 4, 11] rfl) ?_
    refine .ret ?_
    cases h
    exact ⟨rfl, rfl⟩
  replace h := ite_f hc h
  refine cnf (bf hc) ?_
  refine .skip ?_
  show AW _ _ _ _ _ _
  refine .seq ?_
  refine .region ?_
  refine vk (vldn gA_R gS_R) ?_
  refine vk (vlda gA_R gS_R) ?_
  obtain ⟨x24, hx24, h⟩ := bnd h
  refine vk (VOK.tupd (vs := [.ag [.b x24.1.1, .sl (L x24.1.2.1), .sl (L x24.1.2.2)], .i .i64 x24.2]) (vcl0 (rat_Div_ok hx24) Try.call36)) ?_
  refine vk (vmvd) ?_
  refine vk (vex) ?_
  refine vk (vex) ?_
  refine vk (van (zero_of gI_R) gZ_R) ?_
  refine stn ?_ gS_R (by decide)
  refine asd ?_
  refine rn ?_
  refine .gh (Gh.keep [2, 4, 12, 13] rfl) ?_
  refine .seq ?_
  obtain ⟨x25, hx25, h⟩ := bnd h
  obtain ⟨z25, hz, h⟩ := bnd h
  refine AW.mr (σ := Unit) (fun _ => True) (fun _ => [(4, .d (.b z25))]) (fun _ => []) ?_ ?_
  · skip
    refine .region ?_
    refine vk (vcl0 (law02_live_ok hx25) Try.call15) ?_
    by_cases hc : x25 = true
    · replace hz := ite_t hc hz
      have hb0 : x25 = true := hc
      refine vk (VOK.lit (vmvd) hb0) ?_
      refine vk (vmvd) ?_
      refine vk (vbi) ?_
      refine vk (vpkd) ?_
      by_cases hc : x24.2 = 0
      · replace hz := ite_t hc hz
        have hb1 : (decide (x24.2 = 0)) = true := (decide_eq_true hc)
        refine vk (VOK.lit (vmvd) hb1) ?_
        refine vk (vldn gA_R gS_R) ?_
        refine vk (vlda gA_R gS_R) ?_
        obtain ⟨x27, hx27, hz⟩ := bnd hz
        refine vk (vcl0 (ref2Same_ok hx27) Try.call25) ?_
        refine vk (vpkd) ?_
        refine asd ?_
        refine RL.gh (Gh.keep [4] rfl) ?_
        refine .nil ?_
        cases hz
        exact jr () trivial
      replace hz := ite_f hc hz
      have hb1 : (decide (x24.2 = 0)) = false := (decide_eq_false hc)
      refine vk (VOK.lit (vmvd) hb1) ?_
      refine gf ?_
      refine gf ?_
      refine gf ?_
      refine vk (vpkd) ?_
      refine asd ?_
      refine RL.gh (Gh.keep [4] rfl) ?_
      refine .nil ?_
      cases hz
      exact jr () trivial
    replace hz := ite_f hc hz
    have hb0 : x25 = false := (bf hc)
    refine vk (VOK.lit (vmvd) hb0) ?_
    refine gf ?_
    refine gf ?_
    refine vk (vpkd) ?_
    refine vk (vmvd) ?_
    refine gf ?_
    refine gf ?_
    refine gf ?_
    refine vk (vpkd) ?_
    refine asd ?_
    refine RL.gh (Gh.keep [4] rfl) ?_
    refine .nil ?_
    cases hz
    exact jr () trivial
  rintro _ _
  refine .ret ?_
  cases h
  exact ⟨rfl, rfl⟩
end Go.FL
/-
  GP: the law RatResidues.
-/
namespace Go.FL
open Go Go.Proofs

end Go.FL
/-
  Plain laws, rat 8: RatBack, RatResidues.
-/
namespace Go.FL
open Go Go.Proofs

theorem two_eq {a b : RT} (ha : okRB a = true) (hb : okRB b = true) {β : Type} (f : Bool → Option β) : ((ratRight a).bind fun x1 => Option.bind (if x1 = true then ((ratRight b).bind fun x3 => some (!x3)) else some true) f) = f (!(rightR a && rightR b)) := by
  rw [ratRight_eq ha, Option.bind_some, ratRight_eq hb]
  cases rightR a <;> rfl
theorem sub_add {p q : Rat} : p + q - q = p := by
  rw [Rat.sub_eq_add_neg, Rat.add_assoc, Rat.add_neg_cancel, Rat.add_zero]
theorem lawBack {a b : RT} (ha : okRB a = true) (hb : okRB b = true) : law02_RatBack a b = some true := by
  unfold law02_RatBack
  rw [two_eq ha hb]
  rcases two_cases (a := a) (b := b) with h | ⟨p, q, hp, hq, rfl, rfl⟩
  · rw [h, if_pos (show (!false) = true from rfl), live_eq]; rfl
  rw [two_right hp hq, if_neg (by decide), add2_q hp hq, Option.bind_some, add2_q hq hp, Option.bind_some, Rat.add_comm q p, if_pos rfl, mul2_q hp hq]
  have hlast : (Option.bind (some (resR (p * q))) fun x12 => (Option.bind ((if x12.2 = 0 then ((rat_Sign (ofQ q)).bind fun x14 => (some (decide (x14 = 0)))) else (some true)) : Option (Bool)) fun (z13 : Bool) => (if z13 = true then (law02_live.bind fun x15 => (some (x15))) else ((rat_Div x12.1 (ofQ q)).bind fun x16 => (law02_live.bind fun x17 => (Option.bind ((if x17 = true then (if x16.2 = 0 then ((ref2Same x16.1 (ofQ p)).bind fun x19 => (some x19)) else (some false)) else (some false)) : Option (Bool)) fun (z17 : Bool) => (some (z17)))))))) = some true := by
    rw [Option.bind_some]
    by_cases h : fits (p * q)
    · rw [resR_fits h, if_pos rfl, sign_q hq, Option.bind_some, Option.bind_some]
      by_cases h2 : cmpR q 0 = 0
      · rw [if_pos (decide_eq_true h2), live_eq]; rfl
      · have hne : q ≠ 0 := fun e => h2 (cmp_eq.2 e)
        have e : p * q / q = p := by rw [Rat.div_def, Rat.mul_assoc, Rat.mul_inv_cancel _ hne, Rat.mul_one]
        rw [if_neg (by simp [h2]), div_q h hq, if_neg hne, e, resR_fits hp, Option.bind_some, live_eq, Option.bind_some, if_pos rfl, if_pos rfl, ref2Same_self (ofQ_okRB hp)]; rfl
    · rw [resR_not h, if_neg (by decide), Option.bind_some, if_pos rfl, live_eq]; rfl
  by_cases h : fits (p + q)
  · rw [resR_fits h, if_pos rfl, ref2Same_self (ofQ_okRB h), Option.bind_some, Option.bind_some, if_neg (by decide), if_pos rfl, sub_q h hq, sub_add, resR_fits hp, Option.bind_some, if_pos rfl, ref2Same_self (ofQ_okRB hp), Option.bind_some, Option.bind_some, if_neg (by decide)]
    exact hlast
  · rw [resR_not h, if_neg (by decide), Option.bind_some, if_neg (by decide), if_neg (by decide)]
    exact hlast
end Go.FL
/-
  The statement RatBackSaid: for every input the law gives true, and each argument reads as it read before.
-/
namespace Go.Proofs.Ytijibkhkoopgpaa.ratBack
open Go.ChangeShapes Go.WideShapes Go.ChangeAt Go.RowKit Go.FL

theorem own : ownKnob Try.prog.godebug = none := by kernel_rfl
theorem laid : laidOutB Try.prog = true := by kernel_rfl
theorem params : ∀ t ∈ Try.f11.params.toList, Try.prog.readableRec t = true ∧ t < Try.prog.types.size := by
  intro t ht
  simp only [Try.params11, List.mem_cons, List.not_mem_nil, or_false] at ht
  rcases ht with rfl | rfl <;> exact ⟨by kernel_rfl, of_decide_eq_true (by kernel_rfl)⟩
set_option maxRecDepth 100000 in
theorem lifted (os : Os) (started : os.Started) (H : Type) (enc : TypeId × Value → H) :
    ReturnsInHanded {} Try.checked os 11 .any (Rows.ratBackSpec.pre6 enc Try.prog Try.f11 Rows.ratBackRow.domain false) (Rows.ratBackSpec.post enc Try.prog Try.f11 false true false false) := by
  refine returnsInHanded_of_change_sized (C := Try.checked) own started (by kernel_rfl) Try.func11
    (ChangeSpec.witness6 (enc := enc) (C := Try.checked) false ⟨#[], #[.agg #[.bool false, .slice none 0 0, .slice none 0 0], .agg #[.bool false, .slice none 0 0, .slice none 0 0]], []⟩ 8 (by kernel_rfl) (by kernel_rfl) (by kernel_rfl) (by kernel_rfl)) ?_
  intro W base args ds gs before hval0 hW hcnd hsz _
  have hval : ∀ (j : Nat) t v, Try.f11.params[j]? = some t → args[j]? = some v → Value.okWide Try.prog W .any base t v := hval0
  have hW' := hW
  obtain ⟨p, q, hA0, hV, rfl, hfz, hnd⟩ := hW
  have hA : DataW.TrodAll enc Try.prog W 0 (fun _ => true) true Try.f11.params.toList args.toList ds p := hA0
  rw [Try.params11] at hA hval
  obtain ⟨v0, vs0, d0, ds0, p0, q0, hargs, rfl, rfl, h0, r0⟩ := trodAll_cons hA
  obtain ⟨v1, vs1, d1, ds1, p1, q1, rfl, rfl, rfl, h1, r1⟩ := trodAll_cons r0
  obtain ⟨rfl, rfl, rfl⟩ := trodAll_nil r1
  obtain rfl : args = #[v0, v1] := by cases args; simp_all
  obtain ⟨rfl, rfl⟩ := trodVars_none hV
  rw [Try.params11] at hsz
  have w0 : ∀ m ∈ DataW.weights Try.prog 25 d0, m ≤ reachBytes := fun m hm => by simpa using List.all_eq_true.1 hsz m (DataW.weights_mem_each (j := 0) rfl rfl m hm)
  obtain ⟨a0, o0, e0⟩ := arg_agg (v := v0) op_rat (let ⟨cs, h, _⟩ := okWide_struct (P := Try.prog) Try.underlying25 (hval 0 25 v0 rfl rfl); ⟨cs, h⟩) h0 w0
  have w1 : ∀ m ∈ DataW.weights Try.prog 25 d1, m ≤ reachBytes := fun m hm => by simpa using List.all_eq_true.1 hsz m (DataW.weights_mem_each (j := 1) rfl rfl m hm)
  obtain ⟨a1, o1, e1⟩ := arg_agg (v := v1) op_rat (let ⟨cs, h, _⟩ := okWide_struct (P := Try.prog) Try.underlying25 (hval 1 25 v1 rfl rfl); ⟨cs, h⟩) h1 w1
  refine (law_calls (law02_RatBack_ok (lawBack o0 o1)) (.cons e0 (.cons e1 .nil))).mono fun e W' ⟨he, hb⟩ => ?_
  subst he
  exact ⟨_, rfl, post_law hW' rfl (fun _ => rfl) rfl Try.underlying4 laid params hb⟩

theorem over : Rows.ratBackRow.holds Try.pinned (OpenSpec.ofChange Rows.ratBackSpec) :=
  OpenClaim.holds_of_wide 11 Try.f11 rfl rfl rfl rfl rfl rfl rfl ⟨rfl, rfl, rfl, rfl, rfl⟩ rfl rfl rfl rfl rfl (by kernel_rfl) Try.func11 (by kernel_rfl)
    (of_decide_eq_true (by kernel_rfl)) (by unfold Func.isWrapper; first | (rw [if_pos (by decide +kernel)]; kernel_rfl) | (rw [if_neg (by decide +kernel)]; exact ⟨rfl, rfl⟩))
    (fun os started H enc _ => lifted os started H enc)

theorem proved : Rows.RatBackSaid :=
  over
end Go.Proofs.Ytijibkhkoopgpaa.ratBack
