/-
  Part 5 of the base of the proofs: a logic of our own over the calculus, the contracts of the functions
-/
import Derived.Test.YtbeekjoeaigngaaGreatScD
set_option linter.unusedVariables false
/-
  GP: rat: comparisons, residues, powers, texts.
-/
namespace Go.FL
open Go Go.Proofs

def rat_Compare (a0 : RT) (a1 : RT) : Option (Int) := ((ratAllRight ([a0, a1])).bind fun x1 => (if x1 = true then ((rat_Sign a0).bind fun x2 => ((rat_Sign a1).bind fun x3 => (if ((!(decide (x2 = x3))) && (decide (x2 < x3))) = true then (some ((-1))) else (if x2 = x3 then ((ratOf a0).bind fun x4 => ((ratOf a1).bind fun x5 => ((ratCross x4.1 x5.1).bind fun x6 => ((ratOf a1).bind fun x7 => ((ratOf a0).bind fun x8 => ((ratCross x7.1 x8.1).bind fun x9 => ((nCompare x6 x9).bind fun x10 => (some ((w64 (x2 * x10))))))))))) else (some (1)))))) else (some (0))))
theorem rat_Compare_ok {a0 : RT} {a1 : RT} {r : Int} (h : rat_Compare a0 a1 = some r) :
    Fn Tryz.prog 211 [.ag [.b a0.1, .sl (L a0.2.1), .sl (L a0.2.2)], .ag [.b a1.1, .sl (L a1.2.1), .sl (L a1.2.2)]] (.d (.i .i64 r)) := by
  unfold rat_Compare at h
  refine Fn.of (rs := [.tmp 4]) (nt := 46) Tryz.func211 rfl rfl rfl (by simp) rfl ?_; refine .seq ?_; refine .region ?_; refine vk (vbx) ?_; refine vk (vbx) ?_; refine asd ?_; refine rn ?_; refine .gh (Gh.keep [2, 3, 4] rfl) ?_; refine .seq ?_; refine .seq ?_; refine .region ?_; refine vk (vlda gA_R gS_R) ?_; refine vk (vlda gA_R gS_R) ?_; refine vk ((vbsl (RVs_flat [a0, a1]) ge_RVs).deep) ?_
  obtain ⟨x1, hx1, h⟩ := bnd h
  refine vk (vcl0 (ratAllRight_ok hx1) Tryz.call167) ?_; refine vk (vnt) ?_; refine rn ?_; refine .gh (Gh.keep [2, 3, 4, 11] rfl) ?_
  by_cases hc : x1 = true
  · replace h := ite_t hc h
    refine cnf (ntf hc) ?_; refine .skip ?_
    show AW _ _ _ _ _ _
    refine .seq ?_; refine .drawn 4 mixed (by kernel_rfl) ?_; refine dv (vlda gA_R gS_R) ?_
    obtain ⟨x2, hx2, h⟩ := bnd h
    refine dv (vcl0 (rat_Sign_ok hx2) Tryz.call86) ?_; refine dv (vlda gA_R gS_R) ?_
    obtain ⟨x3, hx3, h⟩ := bnd h
    refine dv (vcl0 (rat_Sign_ok hx3) Tryz.call86) ?_; refine dz ?_; refine asd ?_; refine asd ?_; refine rn ?_; refine .gh (Gh.keep [2, 3, 4, 5, 6] rfl) ?_; refine .seq ?_; refine .block ?_; refine .seq ?_; refine AW.mr (σ := Unit) (fun _ => True) (fun _ => [(2, .d (.ptr [.b a0.1, .sl (L a0.2.1), .sl (L a0.2.2)])), (3, .d (.ptr [.b a1.1, .sl (L a1.2.1), .sl (L a1.2.2)])), (4, .d (.i .i64 0)), (5, .d (.i .i64 x2)), (6, .d (.i .i64 x3)), (16, .d (.b ((!(decide (x2 = x3))) && (decide (x2 < x3)))))]) (fun _ => []) ?_ ?_
    · skip
      refine .region ?_; refine vk (vmvd) ?_; refine vk (vmvd) ?_; refine vk (vbi) ?_
      by_cases hc : x2 = x3
      · have hb0 : (!(decide (x2 = x3))) = false := (ntf (decide_eq_true hc))
        refine vk (VOK.lit (vmvd) hb0) ?_; refine gf ?_; refine gf ?_; refine gf ?_; refine vk (vpkd) ?_; refine asd ?_; refine RL.gh (Gh.keep [2, 3, 4, 5, 6, 16] rfl) ?_; refine .nil ?_
        exact jr () trivial (by simp only [hb0]; rfl)
      have hb0 : (!(decide (x2 = x3))) = true := (ntt (decide_eq_false hc))
      refine vk (VOK.lit (vmvd) hb0) ?_; refine vk (vmvd) ?_; refine vk (vmvd) ?_; refine vk (vbi) ?_; refine vk (vpkd) ?_; refine asd ?_; refine RL.gh (Gh.keep [2, 3, 4, 5, 6, 16] rfl) ?_; refine .nil ?_
      exact jr () trivial (by simp only [hb0]; rfl)
    rintro _ _
    by_cases hc : ((!(decide (x2 = x3))) && (decide (x2 < x3))) = true
    · replace h := ite_t hc h
      refine cnt hc ?_; refine .seq ?_; refine .region ?_; refine asd ?_; refine rn ?_; refine .gh (Gh.keep [2, 3, 4, 5] rfl) ?_; refine .ret ?_
      cases h
      exact ⟨rfl, rfl⟩
    replace h := ite_f hc h
    refine cnf (bf hc) ?_; refine .seq ?_; refine .region ?_; refine vk (vmvd) ?_; refine vk (vmvd) ?_; refine vk (vbi) ?_; refine asd ?_; refine rn ?_; refine .gh (Gh.keep [2, 3, 4, 5, 25] rfl) ?_
    by_cases hc : x2 = x3
    · replace h := ite_t hc h
      refine cnf (ntf (decide_eq_true hc)) ?_; refine .skip ?_
      show AW _ _ _ _ _ _
      refine .seq ?_; refine .drawn 17 mixed (by kernel_rfl) ?_; refine dv (vmvd) ?_; refine dv (vlda gA_R gS_R) ?_
      obtain ⟨x4, hx4, h⟩ := bnd h
      refine dv (vcl0 (ratOf_ok hx4) Tryz.call168) ?_; refine dv (vfda gF_N_0 gG_N_0) ?_; refine dv (vlda gA_R gS_R) ?_
      obtain ⟨x5, hx5, h⟩ := bnd h
      refine dv (vcl0 (ratOf_ok hx5) Tryz.call168) ?_; refine dv (vfda gF_N_0 gG_N_0) ?_
      obtain ⟨x6, hx6, h⟩ := bnd h
      refine dv (vcl0 (ratCross_ok hx6) Tryz.call239) ?_; refine dv (vlda gA_R gS_R) ?_
      obtain ⟨x7, hx7, h⟩ := bnd h
      refine dv (vcl0 (ratOf_ok hx7) Tryz.call168) ?_; refine dv (vfda gF_N_0 gG_N_0) ?_; refine dv (vlda gA_R gS_R) ?_
      obtain ⟨x8, hx8, h⟩ := bnd h
      refine dv (vcl0 (ratOf_ok hx8) Tryz.call168) ?_; refine dv (vfda gF_N_0 gG_N_0) ?_
      obtain ⟨x9, hx9, h⟩ := bnd h
      refine dv (vcl0 (ratCross_ok hx9) Tryz.call239) ?_
      obtain ⟨x10, hx10, h⟩ := bnd h
      refine dv (vcl0 (nCompare_ok hx10) Tryz.call164) ?_; refine dv (vbi) ?_; refine dz ?_; refine asd ?_; refine rn ?_; refine .gh (Gh.keep [4] rfl) ?_; refine .ret ?_
      cases h
      exact ⟨rfl, rfl⟩
    replace h := ite_f hc h
    refine cnt (ntt (decide_eq_false hc)) ?_; refine .seq ?_; refine .region ?_; refine asd ?_; refine rn ?_; refine .gh (Gh.keep [2, 3, 4, 5] rfl) ?_; refine .ret ?_
    cases h
    exact ⟨rfl, rfl⟩
  replace h := ite_f hc h
  refine cnt (ntt (bf hc)) ?_; refine .seq ?_; refine .region ?_; refine asd ?_; refine rn ?_; refine .gh (Gh.keep [2, 3, 4] rfl) ?_; refine .ret ?_
  cases h
  exact ⟨rfl, rfl⟩

def rat_Tolerant (a0 : RT) (a1 : RT) (a2 : RT) : Option (Int) := ((ratAllRight ([a0, a1, a2])).bind fun x1 => (if x1 = true then ((ratOf a1).bind fun x2 => ((ratOf a2).bind fun x3 => ((ratLess x3).bind fun x4 => ((ratPlus x2 x4).bind fun x5 => ((ratOf a1).bind fun x6 => ((ratOf a2).bind fun x7 => ((ratCross x6.1 x7.1).bind fun x8 => ((ratOf a2).bind fun x9 => ((ratCross x9.1 x6.1).bind fun x10 => ((nCompare x8 x10).bind fun x11 => (if x11 < 0 then ((ratOf a2).bind fun x12 => ((ratOf a0).bind fun x13 => ((ratTimes x13 (x12.1, false)).bind fun x14 => (Option.bind ((if x14.2 = true then (if 0 < ((List.length x14.1.1 : Nat) : Int) then (some true) else ((ratCross x5.1 x14.1).bind fun x16 => ((ratCross x14.1 x5.1).bind fun x17 => ((nCompare x16 x17).bind fun x18 => (some (decide (0 < x18))))))) else ((ratCross x5.1 x14.1).bind fun x19 => ((ratCross x14.1 x5.1).bind fun x20 => ((nCompare x19 x20).bind fun x21 => (some (decide (0 < x21))))))) : Option (Bool)) fun (z15 : Bool) => (if z15 = true then ((rat_Compare a1 a2).bind fun x22 => (some (x22))) else (some (0))))))) else ((ratOf a0).bind fun x23 => ((ratTimes x23 (x6.1, false)).bind fun x24 => (Option.bind ((if x24.2 = true then (if 0 < ((List.length x24.1.1 : Nat) : Int) then (some true) else ((ratCross x5.1 x24.1).bind fun x26 => ((ratCross x24.1 x5.1).bind fun x27 => ((nCompare x26 x27).bind fun x28 => (some (decide (0 < x28))))))) else ((ratCross x5.1 x24.1).bind fun x29 => ((ratCross x24.1 x5.1).bind fun x30 => ((nCompare x29 x30).bind fun x31 => (some (decide (0 < x31))))))) : Option (Bool)) fun (z25 : Bool) => (if z25 = true then ((rat_Compare a1 a2).bind fun x32 => (some (x32))) else (some (0))))))))))))))))) else (some (0))))
set_option maxHeartbeats 4000000 in
theorem rat_Tolerant_ok {a0 : RT} {a1 : RT} {a2 : RT} {r : Int} (h : rat_Tolerant a0 a1 a2 = some r) :
    Fn Tryz.prog 213 [.ag [.b a0.1, .sl (L a0.2.1), .sl (L a0.2.2)], .ag [.b a1.1, .sl (L a1.2.1), .sl (L a1.2.2)], .ag [.b a2.1, .sl (L a2.2.1), .sl (L a2.2.2)]] (.d (.i .i64 r)) := by
  unfold rat_Tolerant at h
  refine Fn.of (rs := [.tmp 6]) (nt := 71) Tryz.func213 rfl rfl rfl (by simp) rfl ?_; refine .seq ?_; refine .region ?_; refine vk (vbx) ?_; refine vk (vbx) ?_; refine vk (vbx) ?_; refine asd ?_; refine rn ?_; refine .gh (Gh.keep [3, 4, 5, 6] rfl) ?_; refine .seq ?_; refine .seq ?_; refine .region ?_; refine vk (vlda gA_R gS_R) ?_; refine vk (vlda gA_R gS_R) ?_; refine vk (vlda gA_R gS_R) ?_; refine vk ((vbsl (RVs_flat [a0, a1, a2]) ge_RVs).deep) ?_
  obtain ⟨x1, hx1, h⟩ := bnd h
  refine vk (vcl0 (ratAllRight_ok hx1) Tryz.call167) ?_; refine vk (vnt) ?_; refine rn ?_; refine .gh (Gh.keep [3, 4, 5, 6, 15] rfl) ?_
  by_cases hc : x1 = true
  · replace h := ite_t hc h
    refine cnf (ntf hc) ?_; refine .skip ?_
    show AW _ _ _ _ _ _
    refine .seq ?_; refine .drawn 7 mixed (by kernel_rfl) ?_; refine dv (vlda gA_R gS_R) ?_
    obtain ⟨x2, hx2, h⟩ := bnd h
    refine dv (vcl0 (ratOf_ok hx2) Tryz.call168) ?_; refine dv (vlda gA_R gS_R) ?_
    obtain ⟨x3, hx3, h⟩ := bnd h
    refine dv (vcl0 (ratOf_ok hx3) Tryz.call168) ?_
    obtain ⟨x4, hx4, h⟩ := bnd h
    refine dv (vcl0 (ratLess_ok hx4) Tryz.call205) ?_
    obtain ⟨x5, hx5, h⟩ := bnd h
    refine dv (vcl0 (ratPlus_ok hx5) Tryz.call204) ?_; refine dv (van (zero_of gI_N) gZ_N) ?_; refine dz ?_
    refine stn ?_ gS_N (by decide)
    refine rn ?_; refine .gh (Gh.keep [3, 4, 5, 6, 7] rfl) ?_; refine .seq ?_; refine .region ?_; refine vk (vlda gA_R gS_R) ?_
    obtain ⟨x6, hx6, h⟩ := bnd h
    refine vk (vcl0 (ratOf_ok hx6) Tryz.call168) ?_; refine vk (vfda gF_N_0 gG_N_0) ?_; refine vk (van (zero_of gI_Z) gZ_Z) ?_
    refine stn ?_ gS_Z (by decide)
    refine rn ?_; refine .gh (Gh.keep [3, 4, 5, 6, 7, 8] rfl) ?_; refine .seq ?_; refine .seq ?_; refine .drawn 12 mixed (by kernel_rfl) ?_; refine dv (vldn gA_Z gS_Z) ?_; refine dv (vlda gA_R gS_R) ?_
    obtain ⟨x7, hx7, h⟩ := bnd h
    refine dv (vcl0 (ratOf_ok hx7) Tryz.call168) ?_; refine dv (vfda gF_N_0 gG_N_0) ?_
    obtain ⟨x8, hx8, h⟩ := bnd h
    refine dv (vcl0 (ratCross_ok hx8) Tryz.call239) ?_; refine dv (vlda gA_R gS_R) ?_
    obtain ⟨x9, hx9, h⟩ := bnd h
    refine dv (vcl0 (ratOf_ok hx9) Tryz.call168) ?_; refine dv (vfda gF_N_0 gG_N_0) ?_; refine dv (vldn gA_Z gS_Z) ?_
    obtain ⟨x10, hx10, h⟩ := bnd h
    refine dv (vcl0 (ratCross_ok hx10) Tryz.call239) ?_
    obtain ⟨x11, hx11, h⟩ := bnd h
    refine dv (vcl0 (nCompare_ok hx11) Tryz.call164) ?_; refine dv (vbi) ?_; refine dz ?_; refine rn ?_; refine .gh (Gh.keep [3, 4, 5, 6, 7, 8, 36] rfl) ?_
    by_cases hc : x11 < 0
    · replace h := ite_t hc h
      refine cnt (decide_eq_true hc) ?_; refine .region ?_; refine vk (vlda gA_R gS_R) ?_
      obtain ⟨x12, hx12, h⟩ := bnd h
      refine vk (vcl0 (ratOf_ok hx12) Tryz.call168) ?_; refine vk (vfda gF_N_0 gG_N_0) ?_
      refine stn ?_ gS_Z (by decide)
      refine rn ?_; refine .gh (Gh.keep [3, 4, 5, 6, 7, 8] rfl) ?_; refine .seq ?_; refine .drawn 6 mixed (by kernel_rfl) ?_; refine dv (vlda gA_R gS_R) ?_
      obtain ⟨x13, hx13, h⟩ := bnd h
      refine dv (vcl0 (ratOf_ok hx13) Tryz.call168) ?_; refine dv (vldn gA_Z gS_Z) ?_; refine dv (vbd gP_N gI_N gZ_N) ?_
      obtain ⟨x14, hx14, h⟩ := bnd h
      refine dv (vcl0 (ratTimes_ok hx14) Tryz.call169) ?_; refine dv (van (zero_of gI_N) gZ_N) ?_; refine dz ?_
      refine stn ?_ gS_N (by decide)
      refine rn ?_; refine .gh (Gh.keep [4, 5, 6, 7, 9] rfl) ?_; refine .seq ?_; refine .seq ?_; refine .gh (Gh.nbp (t := 9) rfl) ?_; refine .gh (Gh.nbp (t := 7) rfl) ?_
      obtain ⟨z15, hz, h⟩ := bnd h
      refine AW.mr (σ := Unit) (fun _ => True) (fun _ => [(4, .d (.ptr [.b a1.1, .sl (L a1.2.1), .sl (L a1.2.2)])), (5, .d (.ptr [.b a2.1, .sl (L a2.2.1), .sl (L a2.2.2)])), (6, .d (.i .i64 0)), (67, .d (.b z15))]) (fun _ => []) ?_ ?_
      · skip
        refine .drawn 23 mixed (by kernel_rfl) ?_; refine dv (vfa gF_N_1) ?_; refine dv (vldp ga_bool) ?_
        by_cases hc : x14.2 = true
        · replace hz := ite_t hc hz
          have hb0 : x14.2 = true := hc
          refine dv (VOK.lit (vmvd) hb0) ?_; refine dv (vfa gF_N_0) ?_; refine dv (vfa gF_Z_0) ?_; refine dv (vldp ga_L) ?_; refine dv (vlnE (L_length _) (L_sz _) gu_L) ?_; refine dv (vbi) ?_; refine dv (vpkd) ?_
          by_cases hc : 0 < ((List.length x14.1.1 : Nat) : Int)
          · replace hz := ite_t hc hz
            have hb1 : (decide (0 < ((List.length x14.1.1 : Nat) : Int))) = true := (decide_eq_true hc)
            refine dv (VOK.lit (vmvd) hb1) ?_; refine dgf ?_; refine dgf ?_; refine dgf ?_; refine dgf ?_; refine dgf ?_; refine dgf ?_; refine dgf ?_; refine dgf ?_; refine dgf ?_; refine dgf ?_; refine dgf ?_; refine dgf ?_; refine dv (vpkd) ?_; refine dz ?_; refine RL.gh (Gh.keep [4, 5, 6, 67] rfl) ?_; refine .nil ?_
            cases hz
            exact jr () trivial
          replace hz := ite_f hc hz
          have hb1 : (decide (0 < ((List.length x14.1.1 : Nat) : Int))) = false := (decide_eq_false hc)
          refine dv (VOK.lit (vmvd) hb1) ?_; refine dv (vfa gF_N_0) ?_; refine dv (vlda gA_Z gS_Z) ?_; refine dv (vfa gF_N_0) ?_; refine dv (vlda gA_Z gS_Z) ?_
          obtain ⟨x16, hx16, hz⟩ := bnd hz
          refine dv (vcl0 (ratCross_ok hx16) Tryz.call239) ?_; refine dv (vfa gF_N_0) ?_; refine dv (vlda gA_Z gS_Z) ?_; refine dv (vfa gF_N_0) ?_; refine dv (vlda gA_Z gS_Z) ?_
          obtain ⟨x17, hx17, hz⟩ := bnd hz
          refine dv (vcl0 (ratCross_ok hx17) Tryz.call239) ?_
          obtain ⟨x18, hx18, hz⟩ := bnd hz
          refine dv (vcl0 (nCompare_ok hx18) Tryz.call164) ?_; refine dv (vbi) ?_; refine dv (vpkd) ?_; refine dz ?_; refine RL.gh (Gh.keep [4, 5, 6, 67] rfl) ?_; refine .nil ?_
          cases hz
          exact jr () trivial
        replace hz := ite_f hc hz
        have hb0 : x14.2 = false := (bf hc)
        refine dv (VOK.lit (vmvd) hb0) ?_; refine dgf ?_; refine dgf ?_; refine dgf ?_; refine dgf ?_; refine dgf ?_; refine dv (vpkd) ?_; refine dv (vmvd) ?_; refine dv (vfa gF_N_0) ?_; refine dv (vlda gA_Z gS_Z) ?_; refine dv (vfa gF_N_0) ?_; refine dv (vlda gA_Z gS_Z) ?_
        obtain ⟨x19, hx19, hz⟩ := bnd hz
        refine dv (vcl0 (ratCross_ok hx19) Tryz.call239) ?_; refine dv (vfa gF_N_0) ?_; refine dv (vlda gA_Z gS_Z) ?_; refine dv (vfa gF_N_0) ?_; refine dv (vlda gA_Z gS_Z) ?_
        obtain ⟨x20, hx20, hz⟩ := bnd hz
        refine dv (vcl0 (ratCross_ok hx20) Tryz.call239) ?_
        obtain ⟨x21, hx21, hz⟩ := bnd hz
        refine dv (vcl0 (nCompare_ok hx21) Tryz.call164) ?_; refine dv (vbi) ?_; refine dv (vpkd) ?_; refine dz ?_; refine RL.gh (Gh.keep [4, 5, 6, 67] rfl) ?_; refine .nil ?_
        cases hz
        exact jr () trivial
      rintro _ _
      by_cases hc : z15 = true
      · replace h := ite_t hc h
        refine cnt hc ?_; refine .seq ?_; refine .region ?_; refine vk (vlda gA_R gS_R) ?_; refine vk (vlda gA_R gS_R) ?_
        obtain ⟨x22, hx22, h⟩ := bnd h
        refine vk (vcl0 (rat_Compare_ok hx22) Tryz.call211) ?_; refine asd ?_; refine rn ?_; refine .gh (Gh.keep [6] rfl) ?_; refine .ret ?_
        cases h
        exact ⟨rfl, rfl⟩
      replace h := ite_f hc h
      refine cnf (bf hc) ?_; refine .skip ?_
      show AW _ _ _ _ _ _
      refine .seq ?_; refine .region ?_; refine asd ?_; refine rn ?_; refine .gh (Gh.keep [6] rfl) ?_; refine .ret ?_
      cases h
      exact ⟨rfl, rfl⟩
    replace h := ite_f hc h
    refine cnf (decide_eq_false hc) ?_; refine .skip ?_
    show AW _ _ _ _ _ _
    refine .seq ?_; refine .drawn 6 mixed (by kernel_rfl) ?_; refine dv (vlda gA_R gS_R) ?_
    obtain ⟨x23, hx23, h⟩ := bnd h
    refine dv (vcl0 (ratOf_ok hx23) Tryz.call168) ?_; refine dv (vldn gA_Z gS_Z) ?_; refine dv (vbd gP_N gI_N gZ_N) ?_
    obtain ⟨x24, hx24, h⟩ := bnd h
    refine dv (vcl0 (ratTimes_ok hx24) Tryz.call169) ?_; refine dv (van (zero_of gI_N) gZ_N) ?_; refine dz ?_
    refine stn ?_ gS_N (by decide)
    refine rn ?_; refine .gh (Gh.keep [4, 5, 6, 7, 9] rfl) ?_; refine .seq ?_; refine .seq ?_; refine .gh (Gh.nbp (t := 9) rfl) ?_; refine .gh (Gh.nbp (t := 7) rfl) ?_
    obtain ⟨z25, hz, h⟩ := bnd h
    refine AW.mr (σ := Unit) (fun _ => True) (fun _ => [(4, .d (.ptr [.b a1.1, .sl (L a1.2.1), .sl (L a1.2.2)])), (5, .d (.ptr [.b a2.1, .sl (L a2.2.1), .sl (L a2.2.2)])), (6, .d (.i .i64 0)), (67, .d (.b z25))]) (fun _ => []) ?_ ?_
    · skip
      refine .drawn 23 mixed (by kernel_rfl) ?_; refine dv (vfa gF_N_1) ?_; refine dv (vldp ga_bool) ?_
      by_cases hc : x24.2 = true
      · replace hz := ite_t hc hz
        have hb0 : x24.2 = true := hc
        refine dv (VOK.lit (vmvd) hb0) ?_; refine dv (vfa gF_N_0) ?_; refine dv (vfa gF_Z_0) ?_; refine dv (vldp ga_L) ?_; refine dv (vlnE (L_length _) (L_sz _) gu_L) ?_; refine dv (vbi) ?_; refine dv (vpkd) ?_
        by_cases hc : 0 < ((List.length x24.1.1 : Nat) : Int)
        · replace hz := ite_t hc hz
          have hb1 : (decide (0 < ((List.length x24.1.1 : Nat) : Int))) = true := (decide_eq_true hc)
          refine dv (VOK.lit (vmvd) hb1) ?_; refine dgf ?_; refine dgf ?_; refine dgf ?_; refine dgf ?_; refine dgf ?_; refine dgf ?_; refine dgf ?_; refine dgf ?_; refine dgf ?_; refine dgf ?_; refine dgf ?_; refine dgf ?_; refine dv (vpkd) ?_; refine dz ?_; refine RL.gh (Gh.keep [4, 5, 6, 67] rfl) ?_; refine .nil ?_
          cases hz
          exact jr () trivial
        replace hz := ite_f hc hz
        have hb1 : (decide (0 < ((List.length x24.1.1 : Nat) : Int))) = false := (decide_eq_false hc)
        refine dv (VOK.lit (vmvd) hb1) ?_; refine dv (vfa gF_N_0) ?_; refine dv (vlda gA_Z gS_Z) ?_; refine dv (vfa gF_N_0) ?_; refine dv (vlda gA_Z gS_Z) ?_
        obtain ⟨x26, hx26, hz⟩ := bnd hz
        refine dv (vcl0 (ratCross_ok hx26) Tryz.call239) ?_; refine dv (vfa gF_N_0) ?_; refine dv (vlda gA_Z gS_Z) ?_; refine dv (vfa gF_N_0) ?_; refine dv (vlda gA_Z gS_Z) ?_
        obtain ⟨x27, hx27, hz⟩ := bnd hz
        refine dv (vcl0 (ratCross_ok hx27) Tryz.call239) ?_
        obtain ⟨x28, hx28, hz⟩ := bnd hz
        refine dv (vcl0 (nCompare_ok hx28) Tryz.call164) ?_; refine dv (vbi) ?_; refine dv (vpkd) ?_; refine dz ?_; refine RL.gh (Gh.keep [4, 5, 6, 67] rfl) ?_; refine .nil ?_
        cases hz
        exact jr () trivial
      replace hz := ite_f hc hz
      have hb0 : x24.2 = false := (bf hc)
      refine dv (VOK.lit (vmvd) hb0) ?_; refine dgf ?_; refine dgf ?_; refine dgf ?_; refine dgf ?_; refine dgf ?_; refine dv (vpkd) ?_; refine dv (vmvd) ?_; refine dv (vfa gF_N_0) ?_; refine dv (vlda gA_Z gS_Z) ?_; refine dv (vfa gF_N_0) ?_; refine dv (vlda gA_Z gS_Z) ?_
      obtain ⟨x29, hx29, hz⟩ := bnd hz
      refine dv (vcl0 (ratCross_ok hx29) Tryz.call239) ?_; refine dv (vfa gF_N_0) ?_; refine dv (vlda gA_Z gS_Z) ?_; refine dv (vfa gF_N_0) ?_; refine dv (vlda gA_Z gS_Z) ?_
      obtain ⟨x30, hx30, hz⟩ := bnd hz
      refine dv (vcl0 (ratCross_ok hx30) Tryz.call239) ?_
      obtain ⟨x31, hx31, hz⟩ := bnd hz
      refine dv (vcl0 (nCompare_ok hx31) Tryz.call164) ?_; refine dv (vbi) ?_; refine dv (vpkd) ?_; refine dz ?_; refine RL.gh (Gh.keep [4, 5, 6, 67] rfl) ?_; refine .nil ?_
      cases hz
      exact jr () trivial
    rintro _ _
    by_cases hc : z25 = true
    · replace h := ite_t hc h
      refine cnt hc ?_; refine .seq ?_; refine .region ?_; refine vk (vlda gA_R gS_R) ?_; refine vk (vlda gA_R gS_R) ?_
      obtain ⟨x32, hx32, h⟩ := bnd h
      refine vk (vcl0 (rat_Compare_ok hx32) Tryz.call211) ?_; refine asd ?_; refine rn ?_; refine .gh (Gh.keep [6] rfl) ?_; refine .ret ?_
      cases h
      exact ⟨rfl, rfl⟩
    replace h := ite_f hc h
    refine cnf (bf hc) ?_; refine .skip ?_
    show AW _ _ _ _ _ _
    refine .seq ?_; refine .region ?_; refine asd ?_; refine rn ?_; refine .gh (Gh.keep [6] rfl) ?_; refine .ret ?_
    cases h
    exact ⟨rfl, rfl⟩
  replace h := ite_f hc h
  refine cnt (ntt (bf hc)) ?_; refine .seq ?_; refine .region ?_; refine asd ?_; refine rn ?_; refine .gh (Gh.keep [3, 4, 5, 6] rfl) ?_; refine .ret ?_
  cases h
  exact ⟨rfl, rfl⟩

def rat_Residue (a0 : RT) (a1 : RT) : Option (RT × Int) := ((ratAllRight ([a0, a1])).bind fun x1 => (if x1 = true then (if ((List.length a0.2.1 : Nat) : Int) = 0 then ((rat_copied a1 a1.1).bind fun x2 => (some (x2.1, x2.2))) else ((rat_Div a1 a0).bind fun x3 => (if x3.2 = 0 then ((rat_Floor x3.1).bind fun x4 => (if x4.2 = 0 then ((ratMul ([a0, x4.1])).bind fun x5 => (if x5.2 = 0 then ((rat_Sub a1 x5.1).bind fun x6 => (some (x6.1, x6.2))) else (some ((false, [], []), x5.2)))) else (if x4.2 = 0 then ((rat_Sub a1 x4.1).bind fun x7 => (some (x7.1, x7.2))) else (some ((false, [], []), x4.2))))) else (if x3.2 = 0 then ((ratMul ([a0, x3.1])).bind fun x8 => (if x8.2 = 0 then ((rat_Sub a1 x8.1).bind fun x9 => (some (x9.1, x9.2))) else (some ((false, [], []), x8.2)))) else (if x3.2 = 0 then ((rat_Sub a1 x3.1).bind fun x10 => (some (x10.1, x10.2))) else (some ((false, [], []), x3.2))))))) else (some ((false, [], []), 22))))
theorem rat_Residue_ok {a0 : RT} {a1 : RT} {r : RT × Int} (h : rat_Residue a0 a1 = some r) :
    Fn Tryz.prog 137 [.ag [.b a0.1, .sl (L a0.2.1), .sl (L a0.2.2)], .ag [.b a1.1, .sl (L a1.2.1), .sl (L a1.2.2)]] (.tup [.d (.ag [.b r.1.1, .sl (L r.1.2.1), .sl (L r.1.2.2)]), .d (.i .i64 r.2)]) := by
  unfold rat_Residue at h
  refine Fn.ofC (rs := [.cell 4 32, .tmp 5]) (nt := 57) Tryz.func137 rfl rfl rfl (by simp) rfl ?_; refine .seq ?_; refine .region ?_; refine vk (vbx) ?_; refine vk (vbx) ?_; refine vk (van (zero_of gI_R) gZ_R) ?_; refine asd ?_; refine rn ?_; refine .gh (Gh.keep [2, 3, 4, 5] rfl) ?_; refine .seq ?_; refine .block ?_; refine .seq ?_; refine .region ?_; refine vk (vlda gA_R gS_R) ?_; refine vk (vlda gA_R gS_R) ?_; refine vk ((vbsl (RVs_flat [a0, a1]) ge_RVs).deep) ?_
  obtain ⟨x1, hx1, h⟩ := bnd h
  refine vk (vcl0 (ratAllRight_ok hx1) Tryz.call167) ?_; refine vk (vnt) ?_; refine asd ?_; refine rn ?_; refine .gh (Gh.keep [2, 3, 4, 5, 8] rfl) ?_
  by_cases hc : x1 = true
  · replace h := ite_t hc h
    refine cnf (ntf hc) ?_; refine .seq ?_; refine .region ?_; refine vk (vfa gF_R_1) ?_; refine vk (vldp ga_L) ?_; refine vk (vlnE (L_length _) (L_sz _) gu_L) ?_; refine vk (vbi) ?_; refine asd ?_; refine rn ?_; refine .gh (Gh.keep [2, 3, 4, 5, 15] rfl) ?_
    by_cases hc : ((List.length a0.2.1 : Nat) : Int) = 0
    · replace h := ite_t hc h
      refine cnt (decide_eq_true hc) ?_; refine .seq ?_; refine .region ?_; refine vk (vlda gA_R gS_R) ?_; refine vk (vfa gF_R_0) ?_; refine vk (vldp ga_bool) ?_
      obtain ⟨x2, hx2, h⟩ := bnd h
      refine vk (VOK.tupd (vs := [.ag [.b x2.1.1, .sl (L x2.1.2.1), .sl (L x2.1.2.2)], .i .i64 x2.2]) (vcl0 (rat_copied_ok hx2) Tryz.call161)) ?_; refine vk (vex) ?_; refine vk (vex) ?_
      refine stn ?_ gS_R (by decide)
      refine asd ?_; refine rn ?_; refine .gh (Gh.keep [2, 3, 4, 5] rfl) ?_; refine .ret ?_
      cases h
      exact ⟨_, _, ⟨.inr rfl, gA_R, gS_R, (by decide : (0 : Nat) < 3)⟩, rfl, rfl⟩
    replace h := ite_f hc h
    refine cnf (decide_eq_false hc) ?_; refine .skip ?_
    show AW _ _ _ _ _ _
    refine .seq ?_; refine .region ?_; refine vk (vlda gA_R gS_R) ?_; refine vk (vlda gA_R gS_R) ?_
    obtain ⟨x3, hx3, h⟩ := bnd h
    refine vk (VOK.tupd (vs := [.ag [.b x3.1.1, .sl (L x3.1.2.1), .sl (L x3.1.2.2)], .i .i64 x3.2]) (vcl0 (rat_Div_ok hx3) Tryz.call88)) ?_; refine vk (vmvd) ?_; refine vk (vex) ?_; refine vk (vex) ?_; refine vk (van (zero_of gI_R) gZ_R) ?_
    refine stn ?_ gS_R (by decide)
    refine asd ?_; refine rn ?_; refine .gh (Gh.keep [2, 3, 4, 5, 6, 7] rfl) ?_; refine .seq ?_; refine .seq ?_; refine .region ?_; refine vk (vmvd) ?_; refine vk (vbi) ?_; refine rn ?_; refine .gh (Gh.keep [2, 3, 4, 5, 6, 7, 33] rfl) ?_
    by_cases hc : x3.2 = 0
    · replace h := ite_t hc h
      refine cnt (decide_eq_true hc) ?_; refine .region ?_; refine vk (vldn gA_R gS_R) ?_
      obtain ⟨x4, hx4, h⟩ := bnd h
      refine vk (VOK.tupd (vs := [.ag [.b x4.1.1, .sl (L x4.1.2.1), .sl (L x4.1.2.2)], .i .i64 x4.2]) (vcl0 (rat_Floor_ok hx4) Tryz.call81)) ?_; refine vk (vmvd) ?_; refine vk (vex) ?_; refine vk (vex) ?_
      refine stn ?_ gS_R (by decide)
      refine asd ?_; refine rn ?_; refine .gh (Gh.keep [2, 3, 4, 5, 6, 7] rfl) ?_; refine .seq ?_; refine .seq ?_; refine .region ?_; refine vk (vmvd) ?_; refine vk (vbi) ?_; refine rn ?_; refine .gh (Gh.keep [2, 3, 4, 5, 6, 7, 40] rfl) ?_
      by_cases hc : x4.2 = 0
      · replace h := ite_t hc h
        refine cnt (decide_eq_true hc) ?_; refine .region ?_; refine vk (vlda gA_R gS_R) ?_; refine vk (vldn gA_R gS_R) ?_; refine vk ((vbsl (RVs_flat [a0, x4.1]) ge_RVs).deep) ?_
        obtain ⟨x5, hx5, h⟩ := bnd h
        refine vk (VOK.tupd (vs := [.ag [.b x5.1.1, .sl (L x5.1.2.1), .sl (L x5.1.2.2)], .i .i64 x5.2]) (vcl0 (ratMul_ok hx5) Tryz.call135)) ?_; refine vk (vmvd) ?_; refine vk (vex) ?_; refine vk (vex) ?_
        refine stn ?_ gS_R (by decide)
        refine asd ?_; refine rn ?_; refine .gh (Gh.keep [3, 4, 5, 6, 7] rfl) ?_; refine .seq ?_; refine .seq ?_; refine .region ?_; refine vk (vmvd) ?_; refine vk (vbi) ?_; refine rn ?_; refine .gh (Gh.keep [3, 4, 5, 6, 7, 49] rfl) ?_
        by_cases hc : x5.2 = 0
        · replace h := ite_t hc h
          refine cnf (ntf (decide_eq_true hc)) ?_; refine .skip ?_
          show AW _ _ _ _ _ _
          refine .seq ?_; refine .region ?_; refine vk (vlda gA_R gS_R) ?_; refine vk (vldn gA_R gS_R) ?_
          obtain ⟨x6, hx6, h⟩ := bnd h
          refine vk (VOK.tupd (vs := [.ag [.b x6.1.1, .sl (L x6.1.2.1), .sl (L x6.1.2.2)], .i .i64 x6.2]) (vcl0 (rat_Sub_ok hx6) Tryz.call136)) ?_; refine vk (vex) ?_; refine vk (vex) ?_
          refine stn ?_ gS_R (by decide)
          refine asd ?_; refine rn ?_; refine .gh (Gh.keep [4, 5] rfl) ?_; refine .ret ?_
          cases h
          exact ⟨_, _, ⟨.inr rfl, gA_R, gS_R, (by decide : (0 : Nat) < 3)⟩, rfl, rfl⟩
        replace h := ite_f hc h
        refine cnt (ntt (decide_eq_false hc)) ?_; refine .seq ?_; refine .region ?_; refine vk (vbd gP_R gI_R gZ_R) ?_; refine vk (vmvd) ?_
        refine stn ?_ gS_R (by decide)
        refine asd ?_; refine rn ?_; refine .gh (Gh.keep [3, 4, 5, 6] rfl) ?_; refine .ret ?_
        cases h
        exact ⟨_, _, ⟨.inr rfl, gA_R, gS_R, (by decide : (0 : Nat) < 3)⟩, rfl, rfl⟩
      replace h := ite_f hc h
      refine cnf (decide_eq_false hc) ?_; refine .skip ?_
      show AW _ _ _ _ _ _
      refine .seq ?_; refine .seq ?_; refine .region ?_; refine vk (vmvd) ?_; refine vk (vbi) ?_; refine rn ?_; refine .gh (Gh.keep [3, 4, 5, 6, 7, 49] rfl) ?_
      by_cases hc : x4.2 = 0
      · replace h := ite_t hc h
        refine cnf (ntf (decide_eq_true hc)) ?_; refine .skip ?_
        show AW _ _ _ _ _ _
        refine .seq ?_; refine .region ?_; refine vk (vlda gA_R gS_R) ?_; refine vk (vldn gA_R gS_R) ?_
        obtain ⟨x7, hx7, h⟩ := bnd h
        refine vk (VOK.tupd (vs := [.ag [.b x7.1.1, .sl (L x7.1.2.1), .sl (L x7.1.2.2)], .i .i64 x7.2]) (vcl0 (rat_Sub_ok hx7) Tryz.call136)) ?_; refine vk (vex) ?_; refine vk (vex) ?_
        refine stn ?_ gS_R (by decide)
        refine asd ?_; refine rn ?_; refine .gh (Gh.keep [4, 5] rfl) ?_; refine .ret ?_
        cases h
        exact ⟨_, _, ⟨.inr rfl, gA_R, gS_R, (by decide : (0 : Nat) < 3)⟩, rfl, rfl⟩
      replace h := ite_f hc h
      refine cnt (ntt (decide_eq_false hc)) ?_; refine .seq ?_; refine .region ?_; refine vk (vbd gP_R gI_R gZ_R) ?_; refine vk (vmvd) ?_
      refine stn ?_ gS_R (by decide)
      refine asd ?_; refine rn ?_; refine .gh (Gh.keep [3, 4, 5, 6] rfl) ?_; refine .ret ?_
      cases h
      exact ⟨_, _, ⟨.inr rfl, gA_R, gS_R, (by decide : (0 : Nat) < 3)⟩, rfl, rfl⟩
    replace h := ite_f hc h
    refine cnf (decide_eq_false hc) ?_; refine .skip ?_
    show AW _ _ _ _ _ _
    refine .seq ?_; refine .seq ?_; refine .region ?_; refine vk (vmvd) ?_; refine vk (vbi) ?_; refine rn ?_; refine .gh (Gh.keep [2, 3, 4, 5, 6, 7, 40] rfl) ?_
    by_cases hc : x3.2 = 0
    · replace h := ite_t hc h
      refine cnt (decide_eq_true hc) ?_; refine .region ?_; refine vk (vlda gA_R gS_R) ?_; refine vk (vldn gA_R gS_R) ?_; refine vk ((vbsl (RVs_flat [a0, x3.1]) ge_RVs).deep) ?_
      obtain ⟨x8, hx8, h⟩ := bnd h
      refine vk (VOK.tupd (vs := [.ag [.b x8.1.1, .sl (L x8.1.2.1), .sl (L x8.1.2.2)], .i .i64 x8.2]) (vcl0 (ratMul_ok hx8) Tryz.call135)) ?_; refine vk (vmvd) ?_; refine vk (vex) ?_; refine vk (vex) ?_
      refine stn ?_ gS_R (by decide)
      refine asd ?_; refine rn ?_; refine .gh (Gh.keep [3, 4, 5, 6, 7] rfl) ?_; refine .seq ?_; refine .seq ?_; refine .region ?_; refine vk (vmvd) ?_; refine vk (vbi) ?_; refine rn ?_; refine .gh (Gh.keep [3, 4, 5, 6, 7, 49] rfl) ?_
      by_cases hc : x8.2 = 0
      · replace h := ite_t hc h
        refine cnf (ntf (decide_eq_true hc)) ?_; refine .skip ?_
        show AW _ _ _ _ _ _
        refine .seq ?_; refine .region ?_; refine vk (vlda gA_R gS_R) ?_; refine vk (vldn gA_R gS_R) ?_
        obtain ⟨x9, hx9, h⟩ := bnd h
        refine vk (VOK.tupd (vs := [.ag [.b x9.1.1, .sl (L x9.1.2.1), .sl (L x9.1.2.2)], .i .i64 x9.2]) (vcl0 (rat_Sub_ok hx9) Tryz.call136)) ?_; refine vk (vex) ?_; refine vk (vex) ?_
        refine stn ?_ gS_R (by decide)
        refine asd ?_; refine rn ?_; refine .gh (Gh.keep [4, 5] rfl) ?_; refine .ret ?_
        cases h
        exact ⟨_, _, ⟨.inr rfl, gA_R, gS_R, (by decide : (0 : Nat) < 3)⟩, rfl, rfl⟩
      replace h := ite_f hc h
      refine cnt (ntt (decide_eq_false hc)) ?_; refine .seq ?_; refine .region ?_; refine vk (vbd gP_R gI_R gZ_R) ?_; refine vk (vmvd) ?_
      refine stn ?_ gS_R (by decide)
      refine asd ?_; refine rn ?_; refine .gh (Gh.keep [3, 4, 5, 6] rfl) ?_; refine .ret ?_
      cases h
      exact ⟨_, _, ⟨.inr rfl, gA_R, gS_R, (by decide : (0 : Nat) < 3)⟩, rfl, rfl⟩
    replace h := ite_f hc h
    refine cnf (decide_eq_false hc) ?_; refine .skip ?_
    show AW _ _ _ _ _ _
    refine .seq ?_; refine .seq ?_; refine .region ?_; refine vk (vmvd) ?_; refine vk (vbi) ?_; refine rn ?_; refine .gh (Gh.keep [3, 4, 5, 6, 7, 49] rfl) ?_
    by_cases hc : x3.2 = 0
    · replace h := ite_t hc h
      refine cnf (ntf (decide_eq_true hc)) ?_; refine .skip ?_
      show AW _ _ _ _ _ _
      refine .seq ?_; refine .region ?_; refine vk (vlda gA_R gS_R) ?_; refine vk (vldn gA_R gS_R) ?_
      obtain ⟨x10, hx10, h⟩ := bnd h
      refine vk (VOK.tupd (vs := [.ag [.b x10.1.1, .sl (L x10.1.2.1), .sl (L x10.1.2.2)], .i .i64 x10.2]) (vcl0 (rat_Sub_ok hx10) Tryz.call136)) ?_; refine vk (vex) ?_; refine vk (vex) ?_
      refine stn ?_ gS_R (by decide)
      refine asd ?_; refine rn ?_; refine .gh (Gh.keep [4, 5] rfl) ?_; refine .ret ?_
      cases h
      exact ⟨_, _, ⟨.inr rfl, gA_R, gS_R, (by decide : (0 : Nat) < 3)⟩, rfl, rfl⟩
    replace h := ite_f hc h
    refine cnt (ntt (decide_eq_false hc)) ?_; refine .seq ?_; refine .region ?_; refine vk (vbd gP_R gI_R gZ_R) ?_; refine vk (vmvd) ?_
    refine stn ?_ gS_R (by decide)
    refine asd ?_; refine rn ?_; refine .gh (Gh.keep [3, 4, 5, 6] rfl) ?_; refine .ret ?_
    cases h
    exact ⟨_, _, ⟨.inr rfl, gA_R, gS_R, (by decide : (0 : Nat) < 3)⟩, rfl, rfl⟩
  replace h := ite_f hc h
  refine cnt (ntt (bf hc)) ?_; refine .seq ?_; refine .region ?_; refine vk (vbd gP_R gI_R gZ_R) ?_
  refine stn ?_ gS_R (by decide)
  refine asd ?_; refine rn ?_; refine .gh (Gh.keep [2, 3, 4, 5] rfl) ?_; refine .ret ?_
  cases h
  exact ⟨_, _, ⟨.inr rfl, gA_R, gS_R, (by decide : (0 : Nat) < 3)⟩, rfl, rfl⟩

def rat_Power (a0 : RT) (a1 : RT) : Option (RT × Int) := ((ratAllRight ([a0, a1])).bind fun x1 => (if x1 = true then ((rat_IsInt a1).bind fun x2 => (if ((!x2) || ((decide (((List.length a0.2.1 : Nat) : Int) = 0)) && a1.1)) = true then (some ((false, [], []), 3)) else (if ((List.length a1.2.1 : Nat) : Int) = 0 then ((ratOfInt 1).bind fun x3 => (some (x3, 0))) else (if ((List.length a0.2.1 : Nat) : Int) = 0 then ((ratOfInt 0).bind fun x4 => (some (x4, 0))) else (Option.bind ((if a0.1 = true then ((rd? a1.2.1 0).bind fun x6 => (some (decide ((bits .and .u32 ((x6 : Nat) : Int) 1) = 1)))) else (some false)) : Option (Bool)) fun (z5 : Bool) => ((sEqualL a0.2.1 a0.2.2).bind fun x7 => (if x7 = true then (ratOne.bind fun x8 => (ratOne.bind fun x9 => (some ((z5, x8, x9), 0)))) else ((nSmall a1.2.1).bind fun x10 => (if x10.2 = true then ((nPower a0.2.1 x10.1 32).bind fun x11 => ((nPower a0.2.2 x10.1 32).bind fun x12 => (if ((!x11.2) || (!x12.2)) = true then (some ((false, [], []), 8)) else (if a1.1 = true then (some ((z5, x12.1, x11.1), 0)) else (some ((z5, x11.1, x12.1), 0)))))) else (some ((false, [], []), 8))))))))))) else (some ((false, [], []), 22))))
set_option maxHeartbeats 4000000 in
theorem rat_Power_ok {a0 : RT} {a1 : RT} {r : RT × Int} (h : rat_Power a0 a1 = some r) :
    Fn Tryz.prog 138 [.ag [.b a0.1, .sl (L a0.2.1), .sl (L a0.2.2)], .ag [.b a1.1, .sl (L a1.2.1), .sl (L a1.2.2)]] (.tup [.d (.ag [.b r.1.1, .sl (L r.1.2.1), .sl (L r.1.2.2)]), .d (.i .i64 r.2)]) := by
  unfold rat_Power at h
  refine Fn.ofC (rs := [.cell 4 32, .tmp 5]) (nt := 104) Tryz.func138 rfl rfl rfl (by simp) rfl ?_; refine .seq ?_; refine .region ?_; refine vk (vbx) ?_; refine vk (vbx) ?_; refine vk (van (zero_of gI_R) gZ_R) ?_; refine asd ?_; refine rn ?_; refine .gh (Gh.keep [2, 3, 4, 5] rfl) ?_; refine .seq ?_; refine .block ?_; refine .seq ?_; refine .region ?_; refine vk (vlda gA_R gS_R) ?_; refine vk (vlda gA_R gS_R) ?_; refine vk ((vbsl (RVs_flat [a0, a1]) ge_RVs).deep) ?_
  obtain ⟨x1, hx1, h⟩ := bnd h
  refine vk (vcl0 (ratAllRight_ok hx1) Tryz.call167) ?_; refine vk (vnt) ?_; refine asd ?_; refine rn ?_; refine .gh (Gh.keep [2, 3, 4, 5, 13] rfl) ?_
  by_cases hc : x1 = true
  · replace h := ite_t hc h
    refine cnf (ntf hc) ?_; refine .seq ?_
    obtain ⟨x2, hx2, h⟩ := bnd h
    refine AW.mr (σ := Unit) (fun _ => True) (fun _ => [(2, .d (.ptr [.b a0.1, .sl (L a0.2.1), .sl (L a0.2.2)])), (3, .d (.ptr [.b a1.1, .sl (L a1.2.1), .sl (L a1.2.2)])), (4, .nb [.b false, .sl (L []), .sl (L [])]), (5, .d (.i .i64 0)), (20, .d (.b ((!x2) || ((decide (((List.length a0.2.1 : Nat) : Int) = 0)) && a1.1))))]) (fun _ => []) ?_ ?_
    · skip
      refine .region ?_; refine vk (vlda gA_R gS_R) ?_; refine vk (vcl0 (rat_IsInt_ok hx2) Tryz.call206) ?_; refine vk (vnt) ?_
      by_cases hc : x2 = true
      · have hb0 : (!x2) = false := (ntf hc)
        refine vk (VOK.lit (vmvd) hb0) ?_; refine vk (vfa gF_R_1) ?_; refine vk (vldp ga_L) ?_; refine vk (vlnE (L_length _) (L_sz _) gu_L) ?_; refine vk (vbi) ?_
        by_cases hc : ((List.length a0.2.1 : Nat) : Int) = 0
        · have hb1 : (decide (((List.length a0.2.1 : Nat) : Int) = 0)) = true := (decide_eq_true hc)
          refine vk (VOK.lit (vmvd) hb1) ?_; refine vk (vfa gF_R_0) ?_; refine vk (vldp ga_bool) ?_; refine vk (vpkd) ?_; refine vk (vpkd) ?_; refine asd ?_; refine RL.gh (Gh.keep [2, 3, 4, 5, 20] rfl) ?_; refine .nil ?_
          exact jr () trivial (by simp only [hb0, hb1]; rfl)
        have hb1 : (decide (((List.length a0.2.1 : Nat) : Int) = 0)) = false := (decide_eq_false hc)
        refine vk (VOK.lit (vmvd) hb1) ?_; refine gf ?_; refine gf ?_; refine vk (vpkd) ?_; refine vk (vpkd) ?_; refine asd ?_; refine RL.gh (Gh.keep [2, 3, 4, 5, 20] rfl) ?_; refine .nil ?_
        exact jr () trivial (by simp only [hb0, hb1]; rfl)
      have hb0 : (!x2) = true := (ntt (bf hc))
      refine vk (VOK.lit (vmvd) hb0) ?_; refine gf ?_; refine gf ?_; refine gf ?_; refine gf ?_; refine gfu ?_; refine gf ?_; refine gf ?_; refine gf ?_; refine vk (vpkd) ?_; refine asd ?_; refine RL.gh (Gh.keep [2, 3, 4, 5, 20] rfl) ?_; refine .nil ?_
      exact jr () trivial (by simp only [hb0]; rfl)
    rintro _ _
    by_cases hc : ((!x2) || ((decide (((List.length a0.2.1 : Nat) : Int) = 0)) && a1.1)) = true
    · replace h := ite_t hc h
      refine cnt hc ?_; refine .seq ?_; refine .region ?_; refine vk (vbd gP_R gI_R gZ_R) ?_
      refine stn ?_ gS_R (by decide)
      refine asd ?_; refine rn ?_; refine .gh (Gh.keep [2, 3, 4, 5] rfl) ?_; refine .ret ?_
      cases h
      exact ⟨_, _, ⟨.inr rfl, gA_R, gS_R, (by decide : (0 : Nat) < 3)⟩, rfl, rfl⟩
    replace h := ite_f hc h
    refine cnf (bf hc) ?_; refine .seq ?_; refine .region ?_; refine vk (vfa gF_R_1) ?_; refine vk (vldp ga_L) ?_; refine vk (vlnE (L_length _) (L_sz _) gu_L) ?_; refine vk (vbi) ?_; refine asd ?_; refine rn ?_; refine .gh (Gh.keep [2, 3, 4, 5, 35] rfl) ?_
    by_cases hc : ((List.length a1.2.1 : Nat) : Int) = 0
    · replace h := ite_t hc h
      refine cnt (decide_eq_true hc) ?_; refine .seq ?_; refine .region ?_
      obtain ⟨x3, hx3, h⟩ := bnd h
      refine vk (vcl0 (ratOfInt_ok hx3) Tryz.call72) ?_
      refine stn ?_ gS_R (by decide)
      refine asd ?_; refine rn ?_; refine .gh (Gh.keep [2, 3, 4, 5] rfl) ?_; refine .ret ?_
      cases h
      exact ⟨_, _, ⟨.inr rfl, gA_R, gS_R, (by decide : (0 : Nat) < 3)⟩, rfl, rfl⟩
    replace h := ite_f hc h
    refine cnf (decide_eq_false hc) ?_; refine .seq ?_; refine .region ?_; refine vk (vfa gF_R_1) ?_; refine vk (vldp ga_L) ?_; refine vk (vlnE (L_length _) (L_sz _) gu_L) ?_; refine vk (vbi) ?_; refine asd ?_; refine rn ?_; refine .gh (Gh.keep [2, 3, 4, 5, 41] rfl) ?_
    by_cases hc : ((List.length a0.2.1 : Nat) : Int) = 0
    · replace h := ite_t hc h
      refine cnt (decide_eq_true hc) ?_; refine .seq ?_; refine .region ?_
      obtain ⟨x4, hx4, h⟩ := bnd h
      refine vk (vcl0 (ratOfInt_ok hx4) Tryz.call72) ?_
      refine stn ?_ gS_R (by decide)
      refine asd ?_; refine rn ?_; refine .gh (Gh.keep [2, 3, 4, 5] rfl) ?_; refine .ret ?_
      cases h
      exact ⟨_, _, ⟨.inr rfl, gA_R, gS_R, (by decide : (0 : Nat) < 3)⟩, rfl, rfl⟩
    replace h := ite_f hc h
    refine cnf (decide_eq_false hc) ?_; refine .skip ?_
    show AW _ _ _ _ _ _
    refine .seq ?_
    obtain ⟨z5, hz, h⟩ := bnd h
    refine AW.mr (σ := Unit) (fun _ => True) (fun _ => [(2, .d (.ptr [.b a0.1, .sl (L a0.2.1), .sl (L a0.2.2)])), (3, .d (.ptr [.b a1.1, .sl (L a1.2.1), .sl (L a1.2.2)])), (4, .nb [.b false, .sl (L []), .sl (L [])]), (5, .d (.i .i64 0)), (6, .d (.b z5))]) (fun _ => []) ?_ ?_
    · skip
      refine .region ?_; refine vk (vfa gF_R_0) ?_; refine vk (vldp ga_bool) ?_
      by_cases hc : a0.1 = true
      · replace hz := ite_t hc hz
        have hb0 : a0.1 = true := hc
        refine vk (VOK.lit (vmvd) hb0) ?_; refine vk (vfa gF_R_1) ?_; refine vk (vldp ga_L) ?_
        obtain ⟨x6, hx6, hz⟩ := bnd hz
        obtain ⟨nx6, hnx6, hxx6⟩ := rd_some hx6
        refine vk (vix nx6 hnx6 (L_at hxx6) rfl gs_L) ?_; refine vk (vldp ga_uint32) ?_; refine vk (vbi) ?_; refine vk (vbi) ?_; refine vk (vpkd) ?_; refine asd ?_; refine RL.gh (Gh.keep [2, 3, 4, 5, 6] rfl) ?_; refine .nil ?_
        cases hz
        exact jr () trivial
      replace hz := ite_f hc hz
      have hb0 : a0.1 = false := (bf hc)
      refine vk (VOK.lit (vmvd) hb0) ?_; refine gf ?_; refine gf ?_; refine gf ?_; refine gf ?_; refine gf ?_; refine gf ?_; refine vk (vpkd) ?_; refine asd ?_; refine RL.gh (Gh.keep [2, 3, 4, 5, 6] rfl) ?_; refine .nil ?_
      cases hz
      exact jr () trivial
    rintro _ _
    refine .seq ?_; refine .seq ?_; refine .region ?_; refine vk (vfa gF_R_1) ?_; refine vk (vldp ga_L) ?_; refine vk (vfa gF_R_2) ?_; refine vk (vldp ga_L) ?_
    obtain ⟨x7, hx7, h⟩ := bnd h
    refine vk (vcl0 (sEqualL_ok hx7) Tryz.call112) ?_; refine rn ?_; refine .gh (Gh.keep [2, 3, 4, 5, 6, 61] rfl) ?_
    by_cases hc : x7 = true
    · replace h := ite_t hc h
      refine cnt hc ?_; refine .seq ?_; refine .region ?_; refine vk (vmvd) ?_
      obtain ⟨x8, hx8, h⟩ := bnd h
      refine vk ((vcl0 (ratOne_ok hx8) Tryz.call121).deep) ?_
      obtain ⟨x9, hx9, h⟩ := bnd h
      refine vk ((vcl0 (ratOne_ok hx9) Tryz.call121).deep) ?_; refine vk (vbd gP_R gI_R gZ_R) ?_
      refine stn ?_ gS_R (by decide)
      refine asd ?_; refine rn ?_; refine .gh (Gh.keep [2, 3, 4, 5, 6] rfl) ?_; refine .ret ?_
      cases h
      exact ⟨_, _, ⟨.inr rfl, gA_R, gS_R, (by decide : (0 : Nat) < 3)⟩, rfl, rfl⟩
    replace h := ite_f hc h
    refine cnf (bf hc) ?_; refine .skip ?_
    show AW _ _ _ _ _ _
    refine .seq ?_; refine .region ?_; refine vk (vfa gF_R_1) ?_; refine vk (vldp ga_L) ?_
    obtain ⟨x10, hx10, h⟩ := bnd h
    refine vk (VOK.tupd (vs := [.i .i64 x10.1, .b x10.2]) (vcl0 (nSmall_ok hx10) Tryz.call207)) ?_; refine vk (vmvd) ?_; refine vk (vex) ?_; refine vk (vex) ?_; refine asd ?_; refine asd ?_; refine rn ?_; refine .gh (Gh.keep [2, 3, 4, 5, 6, 7, 8] rfl) ?_; refine .seq ?_; refine .seq ?_; refine .region ?_; refine vk (vmvd) ?_; refine vk (vnt) ?_; refine rn ?_; refine .gh (Gh.keep [2, 3, 4, 5, 6, 7, 73] rfl) ?_
    by_cases hc : x10.2 = true
    · replace h := ite_t hc h
      refine cnf (ntf hc) ?_; refine .skip ?_
      show AW _ _ _ _ _ _
      refine .seq ?_; refine .region ?_; refine vk (vfa gF_R_1) ?_; refine vk (vldp ga_L) ?_; refine vk (vmvd) ?_
      obtain ⟨x11, hx11, h⟩ := bnd h
      refine vk (VOK.tupd (vs := [.sl (L x11.1), .b x11.2]) (vcl0 (nPower_ok hx11) Tryz.call208)) ?_; refine vk (vmvd) ?_; refine vk (vex) ?_; refine vk (vex) ?_; refine asd ?_; refine asd ?_; refine rn ?_; refine .gh (Gh.keep [2, 3, 4, 5, 6, 7, 9, 10] rfl) ?_; refine .seq ?_; refine .region ?_; refine vk (vfa gF_R_2) ?_; refine vk (vldp ga_L) ?_; refine vk (vmvd) ?_
      obtain ⟨x12, hx12, h⟩ := bnd h
      refine vk (VOK.tupd (vs := [.sl (L x12.1), .b x12.2]) (vcl0 (nPower_ok hx12) Tryz.call208)) ?_; refine vk (vmvd) ?_; refine vk (vex) ?_; refine vk (vex) ?_; refine asd ?_; refine asd ?_; refine rn ?_; refine .gh (Gh.keep [3, 4, 5, 6, 9, 10, 11, 12] rfl) ?_; refine .seq ?_; refine .seq ?_; refine AW.mr (σ := Unit) (fun _ => True) (fun _ => [(3, .d (.ptr [.b a1.1, .sl (L a1.2.1), .sl (L a1.2.2)])), (4, .nb [.b false, .sl (L []), .sl (L [])]), (5, .d (.i .i64 0)), (6, .d (.b z5)), (9, .d (.sl (L x11.1))), (11, .d (.sl (L x12.1))), (94, .d (.b ((!x11.2) || (!x12.2))))]) (fun _ => []) ?_ ?_
      · skip
        refine .region ?_; refine vk (vmvd) ?_; refine vk (vnt) ?_
        by_cases hc : x11.2 = true
        · have hb0 : (!x11.2) = false := (ntf hc)
          refine vk (VOK.lit (vmvd) hb0) ?_; refine vk (vmvd) ?_; refine vk (vnt) ?_; refine vk (vpkd) ?_; refine RL.gh (Gh.keep [3, 4, 5, 6, 9, 11, 94] rfl) ?_; refine .nil ?_
          exact jr () trivial (by simp only [hb0]; rfl)
        have hb0 : (!x11.2) = true := (ntt (bf hc))
        refine vk (VOK.lit (vmvd) hb0) ?_; refine gf ?_; refine gf ?_; refine vk (vpkd) ?_; refine RL.gh (Gh.keep [3, 4, 5, 6, 9, 11, 94] rfl) ?_; refine .nil ?_
        exact jr () trivial (by simp only [hb0]; rfl)
      rintro _ _
      by_cases hc : ((!x11.2) || (!x12.2)) = true
      · replace h := ite_t hc h
        refine cnt hc ?_; refine .seq ?_; refine .region ?_; refine vk (vbd gP_R gI_R gZ_R) ?_
        refine stn ?_ gS_R (by decide)
        refine asd ?_; refine rn ?_; refine .gh (Gh.keep [3, 4, 5, 6, 9, 11] rfl) ?_; refine .ret ?_
        cases h
        exact ⟨_, _, ⟨.inr rfl, gA_R, gS_R, (by decide : (0 : Nat) < 3)⟩, rfl, rfl⟩
      replace h := ite_f hc h
      refine cnf (bf hc) ?_; refine .skip ?_
      show AW _ _ _ _ _ _
      refine .seq ?_; refine .seq ?_; refine .region ?_; refine vk (vfa gF_R_0) ?_; refine vk (vldp ga_bool) ?_; refine rn ?_; refine .gh (Gh.keep [4, 5, 6, 9, 11, 97] rfl) ?_
      by_cases hc : a1.1 = true
      · replace h := ite_t hc h
        refine cnt hc ?_; refine .region ?_; refine vk (vmvd) ?_; refine vk (vmvd) ?_; refine asd ?_; refine asd ?_; refine rn ?_; refine .gh (Gh.keep [4, 5, 6, 9, 11] rfl) ?_; refine .seq ?_; refine .region ?_; refine vk (vmvd) ?_; refine vk (vmvd) ?_; refine vk (vmvd) ?_; refine vk (vbd gP_R gI_R gZ_R) ?_
        refine stn ?_ gS_R (by decide)
        refine asd ?_; refine rn ?_; refine .gh (Gh.keep [4, 5] rfl) ?_; refine .ret ?_
        cases h
        exact ⟨_, _, ⟨.inr rfl, gA_R, gS_R, (by decide : (0 : Nat) < 3)⟩, rfl, rfl⟩
      replace h := ite_f hc h
      refine cnf (bf hc) ?_; refine .skip ?_
      show AW _ _ _ _ _ _
      refine .seq ?_; refine .region ?_; refine vk (vmvd) ?_; refine vk (vmvd) ?_; refine vk (vmvd) ?_; refine vk (vbd gP_R gI_R gZ_R) ?_
      refine stn ?_ gS_R (by decide)
      refine asd ?_; refine rn ?_; refine .gh (Gh.keep [4, 5] rfl) ?_; refine .ret ?_
      cases h
      exact ⟨_, _, ⟨.inr rfl, gA_R, gS_R, (by decide : (0 : Nat) < 3)⟩, rfl, rfl⟩
    replace h := ite_f hc h
    refine cnt (ntt (bf hc)) ?_; refine .seq ?_; refine .region ?_; refine vk (vbd gP_R gI_R gZ_R) ?_
    refine stn ?_ gS_R (by decide)
    refine asd ?_; refine rn ?_; refine .gh (Gh.keep [2, 3, 4, 5, 6, 7] rfl) ?_; refine .ret ?_
    cases h
    exact ⟨_, _, ⟨.inr rfl, gA_R, gS_R, (by decide : (0 : Nat) < 3)⟩, rfl, rfl⟩
  replace h := ite_f hc h
  refine cnt (ntt (bf hc)) ?_; refine .seq ?_; refine .region ?_; refine vk (vbd gP_R gI_R gZ_R) ?_
  refine stn ?_ gS_R (by decide)
  refine asd ?_; refine rn ?_; refine .gh (Gh.keep [2, 3, 4, 5] rfl) ?_; refine .ret ?_
  cases h
  exact ⟨_, _, ⟨.inr rfl, gA_R, gS_R, (by decide : (0 : Nat) < 3)⟩, rfl, rfl⟩

def rat_Binomial_l1 (a1 : RT) (z6 : (List Nat)) : Nat → RT → Int → (List Nat) → (List Nat) → Option (RT × Int)
  | 0, _, _, _, _ => none
  | k + 1, s11, s12, s13, s14 => ((nCompare s14 z6).bind fun x15 => (if x15 ≤ 0 then (ratOne.bind fun x16 => ((nSum ([a1.2.1, x16])).bind fun x17 => ((nMinus x17 s14).bind fun x18 => ((nProduct ([s13, x18.1])).bind fun x19 => ((nDivMod x19 s14).bind fun x20 => (if 32 < ((List.length x20.1 : Nat) : Int) then (some ((false, [], []), 8)) else (ratOne.bind fun x21 => ((nSum ([s14, x21])).bind fun x22 => (rat_Binomial_l1 a1 z6 k s11 s12 x20.1 x22))))))))) else (ratOne.bind fun x23 => (some ((false, s13, x23), 0)))))
def rat_Binomial (a0 : RT) (a1 : RT) : Option (RT × Int) := ((ratAllRight ([a0, a1])).bind fun x1 => (if x1 = true then ((rat_natural a0).bind fun x2 => (Option.bind ((if x2 = true then ((rat_natural a1).bind fun x4 => (some (!x4))) else (some true)) : Option (Bool)) fun (z2 : Bool) => (if z2 = true then (some ((false, [], []), 3)) else ((nMinus a1.2.1 a0.2.1).bind fun x5 => (jn (fun (z6 : (List Nat)) => (ratOne.bind fun x9 => (ratOne.bind fun x10 => (rat_Binomial_l1 a1 z6 FUEL (false, [], []) 0 x9 x10)))) fun K0 => (if x5.2 = true then ((nCompare x5.1 a0.2.1).bind fun x7 => (if x7 < 0 then (K0 x5.1) else (K0 a0.2.1))) else ((ratOfInt 0).bind fun x8 => (some (x8, 0))))))))) else (some ((false, [], []), 22))))
theorem rat_Binomial_ok {a0 : RT} {a1 : RT} {r : RT × Int} (h : rat_Binomial a0 a1 = some r) :
    Fn Tryz.prog 139 [.ag [.b a0.1, .sl (L a0.2.1), .sl (L a0.2.2)], .ag [.b a1.1, .sl (L a1.2.1), .sl (L a1.2.2)]] (.tup [.d (.ag [.b r.1.1, .sl (L r.1.2.1), .sl (L r.1.2.2)]), .d (.i .i64 r.2)]) := by
  unfold rat_Binomial at h
  refine Fn.ofC (rs := [.cell 4 32, .tmp 5]) (nt := 86) Tryz.func139 rfl rfl rfl (by simp) rfl ?_; refine .seq ?_; refine .region ?_; refine vk (vbx) ?_; refine vk (vbx) ?_; refine vk (van (zero_of gI_R) gZ_R) ?_; refine asd ?_; refine rn ?_; refine .gh (Gh.keep [2, 3, 4, 5] rfl) ?_; refine .seq ?_; refine .block ?_; refine .seq ?_; refine .region ?_; refine vk (vlda gA_R gS_R) ?_; refine vk (vlda gA_R gS_R) ?_; refine vk ((vbsl (RVs_flat [a0, a1]) ge_RVs).deep) ?_
  obtain ⟨x1, hx1, h⟩ := bnd h
  refine vk (vcl0 (ratAllRight_ok hx1) Tryz.call167) ?_; refine vk (vnt) ?_; refine asd ?_; refine rn ?_; refine .gh (Gh.keep [2, 3, 4, 5, 13] rfl) ?_
  by_cases hc : x1 = true
  · replace h := ite_t hc h
    refine cnf (ntf hc) ?_; refine .seq ?_
    obtain ⟨x2, hx2, h⟩ := bnd h
    obtain ⟨z2, hz, h⟩ := bnd h
    refine AW.mr (σ := Unit) (fun _ => True) (fun _ => [(2, .d (.ptr [.b a0.1, .sl (L a0.2.1), .sl (L a0.2.2)])), (3, .d (.ptr [.b a1.1, .sl (L a1.2.1), .sl (L a1.2.2)])), (4, .nb [.b false, .sl (L []), .sl (L [])]), (5, .d (.i .i64 0)), (20, .d (.b z2))]) (fun _ => []) ?_ ?_
    · skip
      refine .region ?_; refine vk (vlda gA_R gS_R) ?_; refine vk (vcl0 (rat_natural_ok hx2) Tryz.call163) ?_; refine vk (vnt) ?_
      by_cases hc : x2 = true
      · replace hz := ite_t hc hz
        have hb0 : (!x2) = false := (ntf hc)
        refine vk (VOK.lit (vmvd) hb0) ?_; refine vk (vlda gA_R gS_R) ?_
        obtain ⟨x4, hx4, hz⟩ := bnd hz
        refine vk (vcl0 (rat_natural_ok hx4) Tryz.call163) ?_; refine vk (vnt) ?_; refine vk (vpkd) ?_; refine asd ?_; refine RL.gh (Gh.keep [2, 3, 4, 5, 20] rfl) ?_; refine .nil ?_
        cases hz
        exact jr () trivial
      replace hz := ite_f hc hz
      have hb0 : (!x2) = true := (ntt (bf hc))
      refine vk (VOK.lit (vmvd) hb0) ?_; refine gf ?_; refine gf ?_; refine gf ?_; refine vk (vpkd) ?_; refine asd ?_; refine RL.gh (Gh.keep [2, 3, 4, 5, 20] rfl) ?_; refine .nil ?_
      cases hz
      exact jr () trivial
    rintro _ _
    by_cases hc : z2 = true
    · replace h := ite_t hc h
      refine cnt hc ?_; refine .seq ?_; refine .region ?_; refine vk (vbd gP_R gI_R gZ_R) ?_
      refine stn ?_ gS_R (by decide)
      refine asd ?_; refine rn ?_; refine .gh (Gh.keep [2, 3, 4, 5] rfl) ?_; refine .ret ?_
      cases h
      exact ⟨_, _, ⟨.inr rfl, gA_R, gS_R, (by decide : (0 : Nat) < 3)⟩, rfl, rfl⟩
    replace h := ite_f hc h
    refine cnf (bf hc) ?_; refine .skip ?_
    show AW _ _ _ _ _ _
    refine .seq ?_; refine .region ?_; refine vk (vfa gF_R_1) ?_; refine vk (vldp ga_L) ?_; refine asd ?_; refine rn ?_; refine .gh (Gh.keep [3, 4, 5, 6] rfl) ?_; refine .seq ?_; refine .region ?_; refine vk (vfa gF_R_1) ?_; refine vk (vldp ga_L) ?_; refine vk (vmvd) ?_
    obtain ⟨x5, hx5, h⟩ := bnd h
    refine vk (VOK.tupd (vs := [.sl (L x5.1), .b x5.2]) (vcl0 (nMinus_ok hx5) Tryz.call209)) ?_; refine vk (vmvd) ?_; refine vk (vex) ?_; refine vk (vex) ?_; refine asd ?_; refine asd ?_; refine rn ?_; refine .gh (Gh.keep [3, 4, 5, 6, 7, 8] rfl) ?_
    obtain ⟨K0, hK0, h⟩ := jn_out h
    refine AW.mj (σ := (List Nat)) (fun p => K0 p = some r) (fun p => [(3, .d (.ptr [.b a1.1, .sl (L a1.2.1), .sl (L a1.2.2)])), (4, .nb [.b false, .sl (L []), .sl (L [])]), (5, .d (.i .i64 0)), (6, .d (.sl (L p)))]) (fun p => []) ?_ ?_
    · skip
      refine .block ?_; refine .seq ?_; refine .region ?_; refine vk (vmvd) ?_; refine vk (vnt) ?_; refine asd ?_; refine rn ?_; refine .gh (Gh.keep [3, 4, 5, 6, 7, 39] rfl) ?_
      by_cases hc : x5.2 = true
      · replace h := ite_t hc h
        refine cnf (ntf hc) ?_; refine .seq ?_; refine .region ?_; refine vk (vmvd) ?_; refine vk (vmvd) ?_
        obtain ⟨x7, hx7, h⟩ := bnd h
        refine vk (vcl0 (nCompare_ok hx7) Tryz.call164) ?_; refine vk (vbi) ?_; refine asd ?_; refine rn ?_; refine .gh (Gh.keep [3, 4, 5, 6, 7, 43] rfl) ?_
        by_cases hc : x7 < 0
        · replace h := ite_t hc h
          refine cnt (decide_eq_true hc) ?_; refine .region ?_; refine vk (vmvd) ?_; refine asd ?_; refine RL.gh (Gh.keep [3, 4, 5, 6] rfl) ?_; refine .nil ?_
          exact jr (x5.1) h
        replace h := ite_f hc h
        refine cnf (decide_eq_false hc) ?_; refine .gh (Gh.keep [3, 4, 5, 6] rfl) ?_; refine .skip ?_
        exact jr (a0.2.1) h
      replace h := ite_f hc h
      refine cnt (ntt (bf hc)) ?_; refine .seq ?_; refine .region ?_
      obtain ⟨x8, hx8, h⟩ := bnd h
      refine vk (vcl0 (ratOfInt_ok hx8) Tryz.call72) ?_
      refine stn ?_ gS_R (by decide)
      refine asd ?_; refine rn ?_; refine .gh (Gh.keep [3, 4, 5, 6] rfl) ?_; refine .ret ?_
      cases h
      exact ⟨_, _, ⟨.inr rfl, gA_R, gS_R, (by decide : (0 : Nat) < 3)⟩, rfl, rfl⟩
    rintro z6 h
    try dsimp only at h ⊢
    subst hK0
    refine .seq ?_; refine .region ?_
    obtain ⟨x9, hx9, h⟩ := bnd h
    refine vk ((vcl0 (ratOne_ok hx9) Tryz.call121).deep) ?_; refine asd ?_; refine rn ?_; refine .gh (Gh.keep [3, 4, 5, 6, 9] rfl) ?_; refine .seq ?_; refine .seq ?_; refine .region ?_
    obtain ⟨x10, hx10, h⟩ := bnd h
    refine vk ((vcl0 (ratOne_ok hx10) Tryz.call121).deep) ?_; refine asd ?_; refine rn ?_; refine .gh (Gh.keep [3, 4, 5, 6, 9, 10] rfl) ?_; refine .block ?_
    refine .loop (.gh (Gh.keep [3, 4, 5, 6, 9, 10] rfl) ?_)
    refine AL.ind (σ := Nat × RT × Int × (List Nat) × (List Nat)) (m := fun p => p.1) (e := fun p => [(3, .d (.ptr [.b a1.1, .sl (L a1.2.1), .sl (L a1.2.2)])), (4, .nb [.b p.2.1.1, .sl (L p.2.1.2.1), .sl (L p.2.1.2.2)]), (5, .d (.i .i64 p.2.2.1)), (6, .d (.sl (L z6))), (9, .d (.sl (L p.2.2.2.1))), (10, .d (.sl (L p.2.2.2.2)))]) (h := fun p => []) (I := fun p => rat_Binomial_l1 a1 z6 p.1 p.2.1 p.2.2.1 p.2.2.2.1 p.2.2.2.2 = some r) ?_ (FUEL, (false, [], []), 0, x9, x10) h
    rintro ⟨k, s11, s12, s13, s14⟩ h ih
    dsimp only at h ih ⊢
    rcases k with _ | k
    · rw [rat_Binomial_l1] at h; cases h
    rw [rat_Binomial_l1] at h
    refine .seq ?_; refine .seq ?_; refine .region ?_; refine vk (vmvd) ?_; refine vk (vmvd) ?_
    obtain ⟨x15, hx15, h⟩ := bnd h
    refine vk (vcl0 (nCompare_ok hx15) Tryz.call164) ?_; refine vk (vbi) ?_; refine rn ?_; refine .gh (Gh.keep [3, 4, 5, 6, 9, 10, 54] rfl) ?_
    by_cases hc : x15 ≤ 0
    · replace h := ite_t hc h
      refine cnt (decide_eq_true hc) ?_; refine .skip ?_
      show AW _ _ _ _ _ _
      refine .seq ?_; refine .block ?_; refine .seq ?_
      obtain ⟨x16, hx16, h⟩ := bnd h
      obtain ⟨x17, hx17, h⟩ := bnd h
      obtain ⟨x18, hx18, h⟩ := bnd h
      refine .drawnF 10 [9] [(11, .d (.sl (L x18.1)))] [] mixed (by kernel_rfl) rfl ?_; refine dv (vfa gF_R_1) ?_; refine dv (vldp ga_L) ?_; refine dv ((vcl0 (ratOne_ok hx16) Tryz.call121).deep) ?_; refine dv ((vbsl (LL_flat [a1.2.1, x16]) ge_LL).deep) ?_; refine dv (vcl0 (nSum_ok hx17) Tryz.call165) ?_; refine dv (vmvd) ?_; refine dv (VOK.tupd (vs := [.sl (L x18.1), .b x18.2]) (vcl0 (nMinus_ok hx18) Tryz.call209)) ?_; refine dv (vmvd) ?_; refine dv (vex) ?_; refine dv (vex) ?_; refine dz ?_
      refine ⟨?_, ?_, ?_⟩
      · intro k hk
        simp only [List.mem_cons, List.not_mem_nil, or_false] at hk
        subst hk
        exact ⟨_, _, _, rfl, rfl, rfl, rfl, rfl, rfl, vex⟩
      · intro om e hom hge
        cases hom
        exact ok_asd rfl ((hge 67 (fun k hk v hv => by
            simp only [List.mem_cons, List.not_mem_nil, or_false] at hk
            subst hk; exact (by decide : ¬ (some 68 = some 67)) (congrArg (Option.map Prod.fst) hv))).trans rfl) rfl ((congrArg isOwn (hge 11 (fun k hk v hv => by
            simp only [List.mem_cons, List.not_mem_nil, or_false] at hk
            subst hk; exact (by decide : ¬ (some 68 = some 11)) (congrArg (Option.map Prod.fst) hv)))).trans rfl) rfl ⟨rfl, rfl⟩
      refine asd ?_; refine rn ?_; refine .gh (Gh.keep [3, 4, 5, 6, 9, 10, 11] rfl) ?_; refine .seq ?_; refine .region ?_; refine vk (vmvd) ?_; refine vk (vmvd) ?_; refine vk ((vbsl (LL_flat [s13, x18.1]) ge_LL).deep) ?_
      obtain ⟨x19, hx19, h⟩ := bnd h
      refine vk (vcl0 (nProduct_ok hx19) Tryz.call166) ?_; refine vk (vmvd) ?_
      obtain ⟨x20, hx20, h⟩ := bnd h
      refine vk (VOK.tupd (vs := [.sl (L x20.1), .sl (L x20.2.1), .b x20.2.2]) (vcl0 (nDivMod_ok hx20) Tryz.call199)) ?_; refine vk (vmvd) ?_; refine vk (vex) ?_; refine vk (vex) ?_; refine vk (vex) ?_; refine asd ?_; refine rn ?_; refine .gh (Gh.keep [3, 4, 5, 6, 9, 10] rfl) ?_; refine .seq ?_; refine .region ?_; refine vk (vmvd) ?_; refine vk (vlnE (L_length _) (L_sz _) gu_L) ?_; refine vk (vbi) ?_; refine rn ?_; refine .gh (Gh.keep [3, 4, 5, 6, 9, 10, 81] rfl) ?_
      by_cases hc : 32 < ((List.length x20.1 : Nat) : Int)
      · replace h := ite_t hc h
        refine cnt (decide_eq_true hc) ?_; refine .seq ?_; refine .region ?_; refine vk (vbd gP_R gI_R gZ_R) ?_
        refine stn ?_ gS_R (by decide)
        refine asd ?_; refine rn ?_; refine .gh (Gh.keep [3, 4, 5, 6, 9, 10] rfl) ?_; refine .ret ?_
        cases h
        exact ⟨_, _, ⟨.inr rfl, gA_R, gS_R, (by decide : (0 : Nat) < 3)⟩, rfl, rfl⟩
      replace h := ite_f hc h
      refine cnf (decide_eq_false hc) ?_; refine .skip ?_
      show AW _ _ _ _ _ _
      refine .region ?_; refine vk (vmvd) ?_
      obtain ⟨x21, hx21, h⟩ := bnd h
      refine vk ((vcl0 (ratOne_ok hx21) Tryz.call121).deep) ?_; refine vk ((vbsl (LL_flat [s14, x21]) ge_LL).deep) ?_
      obtain ⟨x22, hx22, h⟩ := bnd h
      refine vk (vcl0 (nSum_ok hx22) Tryz.call165) ?_; refine asd ?_; refine .nil ?_; refine AL.gh (Gh.keep [3, 4, 5, 6, 9, 10] rfl) ?_
      exact ih (k, s11, s12, x20.1, x22) h (Nat.lt_succ_self _)
    replace h := ite_f hc h
    refine cnf (decide_eq_false hc) ?_; refine .exit ?_
    show AW _ _ _ _ _ _
    refine .seq ?_; refine .region ?_; refine vk (vmvd) ?_
    obtain ⟨x23, hx23, h⟩ := bnd h
    refine vk ((vcl0 (ratOne_ok hx23) Tryz.call121).deep) ?_; refine vk (vbd gP_R gI_R gZ_R) ?_
    refine stn ?_ gS_R (by decide)
    refine asd ?_; refine rn ?_; refine .gh (Gh.keep [4, 5] rfl) ?_; refine .ret ?_
    cases h
    exact ⟨_, _, ⟨.inr rfl, gA_R, gS_R, (by decide : (0 : Nat) < 3)⟩, rfl, rfl⟩
  replace h := ite_f hc h
  refine cnt (ntt (bf hc)) ?_; refine .seq ?_; refine .region ?_; refine vk (vbd gP_R gI_R gZ_R) ?_
  refine stn ?_ gS_R (by decide)
  refine asd ?_; refine rn ?_; refine .gh (Gh.keep [2, 3, 4, 5] rfl) ?_; refine .ret ?_
  cases h
  exact ⟨_, _, ⟨.inr rfl, gA_R, gS_R, (by decide : (0 : Nat) < 3)⟩, rfl, rfl⟩

end Go.FL
/-
  Plain laws, rat 2: sums, differences, products, quotients, as the program reckons them.
-/
namespace Go.FL
open Go Go.Proofs

theorem w64_eq {z : Int} (h1 : -9223372036854775808 ≤ z) (h2 : z ≤ 9223372036854775807) : w64 z = z := wrap64 h1 h2
theorem bind_eq {α β : Type} {x : Option α} {a : α} {f : α → Option β} {r : Option β} (h : x = some a) (h2 : f a = r) : x.bind f = r := by rw [h]; exact h2
theorem ratRight_eq {r : RT} (h : okRB r = true) : ratRight r = some (rightR r) := if_pos h
theorem ref2Right_eq {r : RT} (h : okRB r = true) : ref2Right r = some (rightR r) := if_pos h
theorem ratAll_eq {l : List RT} (h : l.all okRB = true) (hl : l.length ≤ 1048576) : ratAllRight l = some (l.all rightR) := if_pos (by rw [h, Bool.true_and]; exact decide_eq_true hl)
theorem ratAll2 {a b : RT} (ha : okRB a = true) (hb : okRB b = true) : ratAllRight [a, b] = some (rightR a && rightR b) := by
  rw [ratAll_eq (by simp [ha, hb]) (by simp)]; simp
theorem ratAll3 {a b c : RT} (ha : okRB a = true) (hb : okRB b = true) (hc : okRB c = true) : ratAllRight [a, b, c] = some (rightR a && (rightR b && rightR c)) := by
  rw [ratAll_eq (by simp [ha, hb, hc]) (by simp)]; simp
theorem ratOf_eq (a : RT) : ratOf a = some ((a.2.1, a.2.2), a.1) := if_pos trivial
theorem ratLess_eq (a : (List Nat × List Nat) × Bool) : ratLess a = some (a.1, !a.2) := if_pos trivial
theorem ratOf_q (p : Rat) : ratOf (ofQ p) = some (qN (q3 p)) := ratOf_eq _
theorem less_q (x : Q3) : ratLess (qN x) = some (qN (!x.1, x.2.1, x.2.2)) := ratLess_eq _
theorem numQ_qN (x : Q3) : numQ (qN x) = x := by simp [numQ, val_digs]
def sm (k : Nat) (x : Q3) : Prop := (digs x.2.1).length ≤ k ∧ (digs x.2.2).length ≤ k
theorem sm_mono {k l : Nat} {x : Q3} (h : sm k x) (hl : k ≤ l) : sm l x := ⟨Nat.le_trans h.1 hl, Nat.le_trans h.2 hl⟩
theorem sm_q {p : Rat} (h : fits p) : sm 32 (q3 p) := h
theorem plus_q {x y : Q3} (hx : sm 4000 x) (hy : sm 4000 y) : ratPlus (qN x) (qN y) = some (qN (plusN x y)) := by
  have : ratPlus (qN x) (qN y) = some (qN (plusN (numQ (qN x)) (numQ (qN y)))) := if_pos (by
    simp only [Bool.and_eq_true]
    exact ⟨⟨okL_digs hx.1, okL_digs hx.2⟩, okL_digs hy.1, okL_digs hy.2⟩)
  rw [this, numQ_qN, numQ_qN]
theorem times_q {x y : Q3} (hx : sm 4000 x) (hy : sm 4000 y) : ratTimes (qN x) (qN y) = some (qN (timesN x y)) := by
  have : ratTimes (qN x) (qN y) = some (qN (timesN (numQ (qN x)) (numQ (qN y)))) := if_pos (by
    simp only [Bool.and_eq_true]
    exact ⟨⟨okL_digs hx.1, okL_digs hx.2⟩, okL_digs hy.1, okL_digs hy.2⟩)
  rw [this, numQ_qN, numQ_qN]
theorem plus_sm {x y : Q3} {k : Nat} (hx : sm k x) (hy : sm k y) : sm (2 * k + 1) (plusN x y) := by
  have l1 := mul_len (digs_ok x.2.1) (digs_ok y.2.2) hx.1 hy.2
  have l2 := mul_len (digs_ok y.2.1) (digs_ok x.2.2) hy.1 hx.2
  have l3 := mul_len (digs_ok x.2.2) (digs_ok y.2.2) hx.2 hy.2
  rw [val_digs, val_digs] at l1 l2 l3
  have h2 : (plusN x y).2.2 = x.2.2 * y.2.2 := by simp only [plusN]; split <;> first | rfl | (split <;> rfl)
  refine ⟨?_, by rw [h2]; omega⟩
  simp only [plusN]
  generalize x.2.1 * y.2.2 = a at *
  generalize y.2.1 * x.2.2 = b at *
  split
  · exact add_len l1 l2
  · split
    · exact Nat.le_trans (sub_len l1) (by omega)
    · exact Nat.le_trans (sub_len l2) (by omega)
theorem times_sm {x y : Q3} {k : Nat} (hx : sm k x) (hy : sm k y) : sm (2 * k) (timesN x y) := by
  have l1 := mul_len (digs_ok x.2.1) (digs_ok y.2.1) hx.1 hy.1
  have l3 := mul_len (digs_ok x.2.2) (digs_ok y.2.2) hx.2 hy.2
  rw [val_digs, val_digs] at l1 l3
  exact ⟨l1, l3⟩
theorem less_val (x : Q3) : valQ (!x.1, x.2.1, x.2.2) = - valQ x := by
  rw [Rat.neg_mkRat]
  have : sg (!x.1) x.2.1 = - sg x.1 x.2.1 := by cases x.1 <;> simp [sg]
  rw [valQ, this]
theorem less_sm {x : Q3} {k : Nat} (hx : sm k x) : sm k (!x.1, x.2.1, x.2.2) := hx
theorem den_ne (p : Rat) : (q3 p).2.2 ≠ 0 := p.den_nz
theorem two_cases {a b : RT} : (rightR a && rightR b) = false ∨ ∃ p q, fits p ∧ fits q ∧ a = ofQ p ∧ b = ofQ q := by
  rcases right_cases (r := a) with h | ⟨p, hp, rfl⟩
  · exact .inl (by rw [h]; rfl)
  · rcases right_cases (r := b) with h | ⟨q, hq, rfl⟩
    · exact .inl (by rw [h, Bool.and_false])
    · exact .inr ⟨p, q, hp, hq, rfl, rfl⟩
theorem two_right {p q : Rat} (hp : fits p) (hq : fits q) : (rightR (ofQ p) && rightR (ofQ q)) = true := by rw [ofQ_right hp, ofQ_right hq]; rfl
theorem num_pos {p : Rat} : (0 : Int) < ((List.length (ofQ p).2.1 : Nat) : Int) ↔ p ≠ 0 := by
  show (0 : Int) < (((digs p.num.natAbs).length : Nat) : Int) ↔ _
  constructor
  · rintro h rfl
    rw [show (0 : Rat).num.natAbs = 0 from rfl, digs_zero] at h; simp at h
  · intro h
    have : p.num ≠ 0 := fun h2 => h (Rat.num_eq_zero.1 h2)
    have : digs p.num.natAbs ≠ [] := fun h2 => this (by have := digs_nil_iff.1 h2; omega)
    have := List.length_pos_iff.2 this
    omega
theorem num_zero {p : Rat} : ((List.length (ofQ p).2.1 : Nat) : Int) = 0 ↔ p = 0 := by
  have := @num_pos p
  constructor
  · intro h
    by_cases hp : p = 0
    · exact hp
    · have := this.2 hp; omega
  · intro h
    by_cases h0 : ((List.length (ofQ p).2.1 : Nat) : Int) = 0
    · exact h0
    · exact absurd h (this.1 (by omega))
theorem fits_int {z : Int} (h1 : -9223372036854775808 ≤ z) (h2 : z ≤ 9223372036854775808) : fits (z : Rat) := by
  constructor
  · show (digs z.natAbs).length ≤ 32
    exact Nat.le_trans (digs_len (k := 3) (by omega)) (by decide)
  · show (digs 1).length ≤ 32
    rw [one_digs]; decide
end Go.FL
/-
  Plain laws of arrays, 0: what arrays memory may hold; sizes; copies; equal arrays.
-/
namespace Go.FL
open Go Go.Proofs

mutual
def okI : Itm → Prop
  | .mk k n c b => (0 ≤ k ∧ k < 256) ∧ okRB n = true ∧ (-2147483648 ≤ c ∧ c < 2147483648) ∧ b.length ≤ 2932031007402 ∧ okAs b
def okAr : Arr → Prop
  | .mk s i => (∀ z ∈ s, -9223372036854775808 ≤ z ∧ z ≤ 9223372036854775807) ∧ s.length ≤ 17592186044416 ∧ i.length ≤ 1466015503701 ∧ okIs i
def okIs : List Itm → Prop
  | [] => True
  | x :: xs => okI x ∧ okIs xs
def okAs : List Arr → Prop
  | [] => True
  | x :: xs => okAr x ∧ okAs xs
end
/-! ### sizes -/
def prodZ (s : List Int) : Int := s.foldl (· * ·) 1
def szP (s : List Int) : Int × Int :=
  if 8 < s.length then (0, 4) else if s.any (fun n => decide (n < 0)) then (0, 3) else if s.any (fun n => decide (4096 < n)) then (0, 8) else if 0 ∈ s then (0, 0) else if prodZ s ≤ 4096 then (prodZ s, 0) else (0, 8)
end Go.FL
/-
  GP: glyphref02: sums, products, rounding.
-/
namespace Go.FL
open Go Go.Proofs

end Go.FL
/-
  GP: glyphref02: comparisons, copies, texts.
-/
namespace Go.FL
open Go Go.Proofs

end Go.FL
/-
  GP: glyphref03.
-/
namespace Go.FL
open Go Go.Proofs

end Go.FL
/-
  Plain laws of arrays, 1: copies, types, equal arrays.
-/
namespace Go.FL
open Go Go.Proofs

def Tells (x : Option Bool) (p : Prop) : Prop := ∃ r, x = some r ∧ (r = true ↔ p)
theorem Tells.of {x : Option Bool} {p q : Prop} (h : Tells x p) (e : p ↔ q) : Tells x q := by
  obtain ⟨r, h1, h2⟩ := h; exact ⟨r, h1, h2.trans e⟩
theorem Tells.yes {x : Option Bool} {p : Prop} (h : Tells x p) (hp : p) : x = some true := by
  obtain ⟨r, h1, h2⟩ := h; rw [h1, h2.2 hp]
theorem Tells.no {x : Option Bool} {p : Prop} (h : Tells x p) (hp : ¬ p) : x = some false := by
  obtain ⟨r, h1, h2⟩ := h
  cases r with
  | true => exact absurd (h2.1 rfl) hp
  | false => exact h1

mutual
def smI : Itm → Prop
  | .mk _ n _ b => okL 1048576 n.2.1 = true ∧ okL 1048576 n.2.2 = true ∧ smAs b
def smA : Arr → Prop
  | .mk _ i => smIs i
def smIs : List Itm → Prop
  | [] => True
  | x :: xs => smI x ∧ smIs xs
def smAs : List Arr → Prop
  | [] => True
  | x :: xs => smA x ∧ smAs xs
end
end Go.FL
/-
  slices.IndexFunc, slices.ContainsFunc of items, with a function that may write into objects.
-/
namespace Go.FL
open Go Go.Proofs

section
variable {S : Type} (step : Itm → S → Option (Bool × S))
def idxS : List Itm → S → Int → Option (Int × S)
  | [], s, _ => some (-1, s)
  | x :: xs, s, i => (step x s).bind fun r => if r.1 = true then some (i, r.2) else idxS xs r.2 (i + 1)
end
theorem w64_id {z : Int} (h1 : -9223372036854775808 ≤ z) (h2 : z ≤ 9223372036854775807) : w64 z = z := by
  simp only [w64, IntKind.wrap, IntKind.bits, IntKind.signed]; simp; omega
abbrev dvI (x : Itm) : DV := .ag [.i .u8 x.kind, .b x.num.1, .sl (L x.num.2.1), .sl (L x.num.2.2), .i .i32 x.char, .sl (Ars x.box)]
abbrev dvA (x : Arr) : DV := .ag [.sl (Is x.shape), .sl (Its x.items)]

set_option maxRecDepth 10000 in
theorem IndexFuncI_R {S : Type} {step : Itm → S → Option (Bool × S)} {st : S → Heap → Prop} {f : FuncId} {caps : List AV} (hcall : ∀ args w, (callFunc f args).run Tryz.prog w = .ok (.enter f args) w) (hnc : noOwnL caps = true)
    (hstep : ∀ (x : Itm) s r H, st s H → step x s = some r → FnR Tryz.prog f (.d (dvI x) :: caps) H fun v H' => v = .d (.b r.1) ∧ st r.2 H')
    {xs : List Itm} {s : S} {r : Int × S} (hl : xs.length ≤ 9223372036854775806) (h : idxS step xs s 0 = some r) {H : Heap} (hs : st s H) :
    FnR Tryz.prog 227 [.d (.sl (Its xs)), .fn f [] caps] H fun v H' => v = .d (.i .i64 r.1) ∧ st r.2 H' := by
  have hfn : noOwn (.fn f [] caps) = true := by simp [noOwn, noOwnL, hnc]
  refine FnR.of (rs := [.tmp 4]) 19 Tryz.func227 rfl rfl rfl (by simp) ?_; refine .seq ?_; refine .region ?_; refine asd ?_; refine rn ?_; refine .seq ?_; refine .seq ?_; refine .region ?_; refine vk (vmvd) ?_; refine vk (vlnE (Its_length _) (Its_sz _) gu_Its) ?_; refine vk (vmvd) ?_; refine rn ?_; refine .block ?_
  refine .loop (.gh (Gh.keep [0, 1, 7, 8] rfl) ?_)
  refine AL.ind (σ := Nat × S × Heap) (m := fun p => xs.length - p.1) (e := fun p => [(0, .d (.sl (Its xs))), (1, .fn f [] caps), (7, .d (.i .i64 ((List.length xs : Nat) : Int))), (8, .d (.i .i64 ((p.1 : Nat) : Int)))]) (h := fun p => p.2.2)
    (I := fun p => p.1 ≤ xs.length ∧ st p.2.1 p.2.2 ∧ idxS step (xs.drop p.1) p.2.1 (p.1 : Int) = some r) ?_ (0, s, H) ⟨Nat.zero_le _, hs, h⟩
  rintro ⟨i, s, H⟩ ⟨hi, hs, h⟩ ih
  dsimp only at hi hs h ih ⊢
  refine .seq ?_; refine .region ?_; refine vk (vbi) ?_; refine rn ?_; refine .seq ?_
  by_cases hc : ((i : Nat) : Int) < ((List.length xs : Nat) : Int)
  · refine cnt (decide_eq_true hc) ?_
    have hlt : i < xs.length := by omega
    rw [List.drop_eq_getElem_cons hlt, idxS] at h
    obtain ⟨z, hz, h⟩ := bnd h
    refine .skip ?_
    show AW _ _ _ _ _ _
    refine .seq ?_; refine .block ?_; refine .seq ?_; refine .region ?_; refine vk (vmvd) ?_; refine asd ?_; refine rn ?_; refine .seq ?_; refine .region ?_; refine vk (vmvA (av := .fn f [] caps) (hn := hfn)) ?_; refine vk (vmvd) ?_; refine vk (vmvd) ?_; refine vk (vix i rfl (Its_at (List.getElem?_eq_getElem hlt)) rfl gs_Its) ?_; refine vk (vlda gA_Itm gS_Itm) ?_
    refine clRv (avs := [.d (dvI xs[i])]) (hstep _ _ _ _ hs hz) hcall (fun v H' hp => ?_) (hnc := hnc)
    obtain ⟨rfl, hs'⟩ := hp
    refine rn ?_
    by_cases hc : z.1 = true
    · refine cnt hc ?_
      rw [if_pos hc] at h
      cases h
      refine .seq ?_; refine .region ?_; refine vk (vmvd) ?_; refine asd ?_; refine rn ?_; refine .ret ?_
      exact ⟨_, ⟨rfl, rfl⟩, rfl, hs'⟩
    refine cnf (bf hc) ?_
    rw [if_neg hc] at h
    refine .skip ?_
    show AW _ _ _ _ _ _
    refine .region ?_; refine vk (vbi) ?_; refine vk (vmvd) ?_; refine .nil ?_
    have hw : IntKind.wrap .i64 ((i : Int) + 1) = ((i + 1 : Nat) : Int) := by rw [show IntKind.wrap .i64 ((i : Int) + 1) = (i : Int) + 1 from w64_id (by omega) (by omega)]; omega
    rw [hw]
    refine AL.gh (Gh.keep [0, 1, 7, 8] rfl) ?_
    exact ih (i + 1, z.2, H') ⟨hlt, hs', by rw [← h]; simp⟩ (by dsimp only; omega)
  · refine cnf (decide_eq_false hc) ?_
    have : i = xs.length := by omega
    subst this
    rw [List.drop_length, idxS] at h
    cases h
    refine .exit ?_
    show AW _ _ _ _ _ _
    refine .seq ?_; refine .region ?_; refine asd ?_; refine rn ?_; refine .ret ?_
    exact ⟨_, ⟨rfl, rfl⟩, rfl, hs⟩
theorem ContainsFuncI_R {S : Type} {step : Itm → S → Option (Bool × S)} {st : S → Heap → Prop} {f : FuncId} {caps : List AV} (hcall : ∀ args w, (callFunc f args).run Tryz.prog w = .ok (.enter f args) w) (hnc : noOwnL caps = true)
    (hstep : ∀ (x : Itm) s r H, st s H → step x s = some r → FnR Tryz.prog f (.d (dvI x) :: caps) H fun v H' => v = .d (.b r.1) ∧ st r.2 H')
    {xs : List Itm} {s : S} {r : Int × S} (hl : xs.length ≤ 9223372036854775806) (h : idxS step xs s 0 = some r) {H : Heap} (hs : st s H) :
    FnR Tryz.prog 179 [.d (.sl (Its xs)), .fn f [] caps] H fun v H' => v = .d (.b (decide (0 ≤ r.1))) ∧ st r.2 H' := by
  have hfn : noOwn (.fn f [] caps) = true := by simp [noOwn, noOwnL, hnc]
  refine FnR.of (rs := [.tmp 4]) 9 Tryz.func179 rfl rfl rfl (by simp) ?_; refine .seq ?_; refine .region ?_; refine asd ?_; refine rn ?_; refine .seq ?_; refine .region ?_; refine vk (vmvd) ?_; refine vk (vmvA (av := .fn f [] caps) (hn := hfn)) ?_
  refine clR (avs := [.d (.sl (Its xs)), .fn f [] caps]) (IndexFuncI_R hcall hnc hstep hl h hs) Tryz.call227 (fun v H' hp => ?_) (ha := by simp [argsA, lk, get, hfn, isRef, noOwn])
  obtain ⟨rfl, hs'⟩ := hp
  refine vk (vbi) ?_; refine asd ?_; refine rn ?_; refine .ret ?_
  exact ⟨_, ⟨rfl, rfl⟩, rfl, hs'⟩
end Go.FL
/-
  What measures arrays: (*extent).array, (*extent).item, measured, rightItem.
-/
namespace Go.FL
open Go Go.Proofs

abbrev M3 := Bool × Int × Int
abbrev EB (c d : Int) : HO := .box [.d (.i .i64 c), .d (.i .i64 d)]
def Upd (H : Heap) (id : Nat) (o : HO) (H' : Heap) : Prop := H'[id]? = some o ∧ H.length ≤ H'.length ∧ ∀ j, j ≠ id → j < H.length → H'[j]? = H[j]?
theorem Upd.same {H : Heap} {id : Nat} {o : HO} (h : H[id]? = some o) : Upd H id o H := ⟨h, Nat.le_refl _, fun _ _ _ => rfl⟩
theorem Upd.trans {H H' H'' : Heap} {id : Nat} {o o' : HO} (h : Upd H id o H') (k : Upd H' id o' H'') : Upd H id o' H'' :=
  ⟨k.1, Nat.le_trans h.2.1 k.2.1, fun j h1 h2 => (k.2.2 j h1 (Nat.lt_of_lt_of_le h2 h.2.1)).trans (h.2.2 j h1 h2)⟩
def PE (id : Nat) (r : M3) (H : Heap) : AV → Heap → Prop := fun v H' => v = .d (.b r.1) ∧ Upd H id (EB r.2.1 r.2.2) H'
theorem PE.refl {id : Nat} {b : Bool} {c d : Int} {H : Heap} (h : H[id]? = some (EB c d)) : PE id (b, c, d) H (.d (.b b)) H := ⟨rfl, .same h⟩
def OA (rc : Arr → Int → Int → Int → Option M3) : Prop := ∀ (a : Arr) (deep c d : Int) (r : M3), rc a deep c d = some r → ∀ (H : Heap) (id : Nat), H[id]? = some (EB c d) →
  FnR Tryz.prog 108 [.bp id 0, .d (dvA a), .d (.i .i64 deep)] H (PE id r H)
def noNumB (a1 : Itm) : Bool := ((!a1.num.1) && ((decide (((List.length a1.num.2.1 : Nat) : Int) = 0)) && (decide (((List.length a1.num.2.2 : Nat) : Int) = 0))))
def mItB (rc : Arr → Int → Int → Int → Option M3) (a1 : Itm) (a2 c d : Int) : Option M3 := (if a1.kind = 1 then ((ratRight a1.num).bind fun x1 => (some ((x1 && ((decide (a1.char = 0)) && (decide (((List.length a1.box : Nat) : Int) = 0)))), c, d))) else (if a1.kind = 2 then ((array_isChar a1.char).bind fun x2 => (some ((x2 && (noNumB a1 && (decide (((List.length a1.box : Nat) : Int) = 0)))), c, d))) else (if a1.kind = 3 then (if ((List.length a1.box : Nat) : Int) = 1 then (if noNumB a1 = true then (if a1.char = 0 then ((rd? a1.box 0).bind fun x4 => ((array_isSimple x4).bind fun x5 => (if x5 = true then (some (false, c, d)) else ((rd? a1.box 0).bind fun x6 => ((rc x6 a2 c d).bind fun x7 => (some x7)))))) else (some (false, c, d))) else (some (false, c, d))) else (some (false, c, d))) else (some (false, c, d)))))
set_option maxHeartbeats 4000000 in
theorem extent_item_ok {rc : Arr → Int → Int → Int → Option M3} (orc : OA rc) {a1 : Itm} {a2 c d : Int} {r : M3} (h : mItB rc a1 a2 c d = some r) {H : Heap} {id : Nat} (hH : H[id]? = some (EB c d)) :
    FnR Tryz.prog 193 [.bp id 0, .d (dvI a1), .d (.i .i64 a2)] H (PE id r H) := by
  unfold mItB noNumB at h
  refine FnR.of (rs := [.tmp 6]) 89 Tryz.func193 rfl rfl rfl (by simp) ?_; refine .seq ?_; refine .region ?_; refine vk (vbx) ?_; refine asd ?_; refine rn ?_; refine .gh (Gh.keep [0, 2, 4, 6] rfl) ?_; refine .seq ?_; refine AW.mr (σ := Unit) (fun _ => True) (fun _ => [(0, .bp id 0), (2, .d (.i .i64 a2)), (4, .d (.ptr [.i .u8 a1.kind, .b a1.num.1, .sl (L a1.num.2.1), .sl (L a1.num.2.2), .i .i32 a1.char, .sl (Ars a1.box)])), (6, .d (.b false)), (7, .d (.b ((!a1.num.1) && ((decide (((List.length a1.num.2.1 : Nat) : Int) = 0)) && (decide (((List.length a1.num.2.2 : Nat) : Int) = 0))))))]) (fun _ => H) ?_ ?_
  · skip
    refine .region ?_; refine vk (vfa gF_Itm_1) ?_; refine vk (vfa gF_R_0) ?_; refine vk (vldp ga_bool) ?_; refine vk (vnt) ?_
    by_cases hc : a1.num.1 = true
    · have hb0 : (!a1.num.1) = false := (ntf hc)
      refine vk (VOK.lit (vmvd) hb0) ?_; refine gf ?_; refine gf ?_; refine gf ?_; refine gf ?_; refine gf ?_; refine vk (vpkd) ?_; refine vk (vmvd) ?_; refine gf ?_; refine gf ?_; refine gf ?_; refine gf ?_; refine gf ?_; refine vk (vpkd) ?_; refine asd ?_; refine RL.gh (Gh.keep [0, 2, 4, 6, 7] rfl) ?_; refine .nil ?_
      exact jr () trivial (by simp only [hb0]; rfl)
    have hb0 : (!a1.num.1) = true := (ntt (bf hc))
    refine vk (VOK.lit (vmvd) hb0) ?_; refine vk (vfa gF_Itm_1) ?_; refine vk (vfa gF_R_1) ?_; refine vk (vldp ga_L) ?_; refine vk (vlnE (L_length _) (L_sz _) gu_L) ?_; refine vk (vbi) ?_; refine vk (vpkd) ?_
    by_cases hc : ((List.length a1.num.2.1 : Nat) : Int) = 0
    · have hb1 : (decide (((List.length a1.num.2.1 : Nat) : Int) = 0)) = true := (decide_eq_true hc)
      refine vk (VOK.lit (vmvd) hb1) ?_; refine vk (vfa gF_Itm_1) ?_; refine vk (vfa gF_R_2) ?_; refine vk (vldp ga_L) ?_; refine vk (vlnE (L_length _) (L_sz _) gu_L) ?_; refine vk (vbi) ?_; refine vk (vpkd) ?_; refine asd ?_; refine RL.gh (Gh.keep [0, 2, 4, 6, 7] rfl) ?_; refine .nil ?_
      exact jr () trivial (by simp only [hb0, hb1]; rfl)
    have hb1 : (decide (((List.length a1.num.2.1 : Nat) : Int) = 0)) = false := (decide_eq_false hc)
    refine vk (VOK.lit (vmvd) hb1) ?_; refine gf ?_; refine gf ?_; refine gf ?_; refine gf ?_; refine gf ?_; refine vk (vpkd) ?_; refine asd ?_; refine RL.gh (Gh.keep [0, 2, 4, 6, 7] rfl) ?_; refine .nil ?_
    exact jr () trivial (by simp only [hb0, hb1]; rfl)
  rintro _ _
  refine .seq ?_; refine .seq ?_; refine .region ?_; refine vk (vfa gF_Itm_0) ?_; refine vk (vldp ga_ItemKind) ?_; refine rn ?_; refine .gh (Gh.keep [0, 2, 4, 6, 7, 27] rfl) ?_; refine .block ?_; refine .seq ?_; refine .region ?_; refine vk (vbi) ?_; refine asd ?_; refine rn ?_; refine .gh (Gh.keep [0, 2, 4, 6, 7, 27, 28] rfl) ?_
  by_cases hc : a1.kind = 1
  · replace h := ite_t hc h
    refine cnt (decide_eq_true hc) ?_; refine .seq ?_
    obtain ⟨x1, hx1, h⟩ := bnd h
    refine AW.mr (σ := Unit) (fun _ => True) (fun _ => [(6, .d (.b (x1 && ((decide (a1.char = 0)) && (decide (((List.length a1.box : Nat) : Int) = 0))))))]) (fun _ => H) ?_ ?_
    · skip
      refine .region ?_; refine vk (vfa gF_Itm_1) ?_; refine vk (vlda gA_R gS_R) ?_; refine vk (vcl0 (ratRight_ok hx1) Tryz.call45) ?_
      by_cases hc : x1 = true
      · have hb0 : x1 = true := hc
        refine vk (VOK.lit (vmvd) hb0) ?_; refine vk (vfa gF_Itm_2) ?_; refine vk (vldp ga_int32) ?_; refine vk (vbi) ?_; refine vk (vpkd) ?_
        by_cases hc : a1.char = 0
        · have hb1 : (decide (a1.char = 0)) = true := (decide_eq_true hc)
          refine vk (VOK.lit (vmvd) hb1) ?_; refine vk (vfa gF_Itm_3) ?_; refine vk (vldp ga_Ars) ?_; refine vk (vlnE (Ars_length _) (Ars_sz _) gu_Ars) ?_; refine vk (vbi) ?_; refine vk (vpkd) ?_; refine asd ?_; refine RL.gh (Gh.keep [6] rfl) ?_; refine .nil ?_
          exact jr () trivial (by simp only [hb0, hb1]; rfl)
        have hb1 : (decide (a1.char = 0)) = false := (decide_eq_false hc)
        refine vk (VOK.lit (vmvd) hb1) ?_; refine gf ?_; refine gf ?_; refine gf ?_; refine gf ?_; refine vk (vpkd) ?_; refine asd ?_; refine RL.gh (Gh.keep [6] rfl) ?_; refine .nil ?_
        exact jr () trivial (by simp only [hb0, hb1]; rfl)
      have hb0 : x1 = false := (bf hc)
      refine vk (VOK.lit (vmvd) hb0) ?_; refine gf ?_; refine gf ?_; refine gf ?_; refine vk (vpkd) ?_; refine vk (vmvd) ?_; refine gf ?_; refine gf ?_; refine gf ?_; refine gf ?_; refine vk (vpkd) ?_; refine asd ?_; refine RL.gh (Gh.keep [6] rfl) ?_; refine .nil ?_
      exact jr () trivial (by simp only [hb0]; rfl)
    rintro _ _
    refine .ret ?_
    cases h
    exact ⟨_, ⟨rfl, rfl⟩, .refl hH⟩
  replace h := ite_f hc h
  refine cnf (decide_eq_false hc) ?_; refine .seq ?_; refine .region ?_; refine vk (vbi) ?_; refine asd ?_; refine rn ?_; refine .gh (Gh.keep [0, 2, 4, 6, 7, 27, 44] rfl) ?_
  by_cases hc : a1.kind = 2
  · replace h := ite_t hc h
    refine cnt (decide_eq_true hc) ?_; refine .seq ?_
    obtain ⟨x2, hx2, h⟩ := bnd h
    refine AW.mr (σ := Unit) (fun _ => True) (fun _ => [(6, .d (.b (x2 && (((!a1.num.1) && ((decide (((List.length a1.num.2.1 : Nat) : Int) = 0)) && (decide (((List.length a1.num.2.2 : Nat) : Int) = 0)))) && (decide (((List.length a1.box : Nat) : Int) = 0))))))]) (fun _ => H) ?_ ?_
    · skip
      refine .region ?_; refine vk (vfa gF_Itm_2) ?_; refine vk (vldp ga_int32) ?_; refine vk (vcl0 (array_isChar_ok hx2) Tryz.call231) ?_
      by_cases hc : x2 = true
      · have hb0 : x2 = true := hc
        refine vk (VOK.lit (vmvd) hb0) ?_; refine vk (vmvd) ?_; refine vk (vpkd) ?_
        by_cases hc : ((!a1.num.1) && ((decide (((List.length a1.num.2.1 : Nat) : Int) = 0)) && (decide (((List.length a1.num.2.2 : Nat) : Int) = 0)))) = true
        · have hb1 : ((!a1.num.1) && ((decide (((List.length a1.num.2.1 : Nat) : Int) = 0)) && (decide (((List.length a1.num.2.2 : Nat) : Int) = 0)))) = true := hc
          refine vk (VOK.lit (vmvd) hb1) ?_; refine vk (vfa gF_Itm_3) ?_; refine vk (vldp ga_Ars) ?_; refine vk (vlnE (Ars_length _) (Ars_sz _) gu_Ars) ?_; refine vk (vbi) ?_; refine vk (vpkd) ?_; refine asd ?_; refine RL.gh (Gh.keep [6] rfl) ?_; refine .nil ?_
          exact jr () trivial (by simp only [hb0, hb1]; rfl)
        have hb1 : ((!a1.num.1) && ((decide (((List.length a1.num.2.1 : Nat) : Int) = 0)) && (decide (((List.length a1.num.2.2 : Nat) : Int) = 0)))) = false := (bf hc)
        refine vk (VOK.lit (vmvd) hb1) ?_; refine gf ?_; refine gf ?_; refine gf ?_; refine gf ?_; refine vk (vpkd) ?_; refine asd ?_; refine RL.gh (Gh.keep [6] rfl) ?_; refine .nil ?_
        exact jr () trivial (by simp only [hb0, hb1]; rfl)
      have hb0 : x2 = false := (bf hc)
      refine vk (VOK.lit (vmvd) hb0) ?_; refine gf ?_; refine vk (vpkd) ?_; refine vk (vmvd) ?_; refine gf ?_; refine gf ?_; refine gf ?_; refine gf ?_; refine vk (vpkd) ?_; refine asd ?_; refine RL.gh (Gh.keep [6] rfl) ?_; refine .nil ?_
      exact jr () trivial (by simp only [hb0]; rfl)
    rintro _ _
    refine .ret ?_
    cases h
    exact ⟨_, ⟨rfl, rfl⟩, .refl hH⟩
  replace h := ite_f hc h
  refine cnf (decide_eq_false hc) ?_; refine .seq ?_; refine .region ?_; refine vk (vbi) ?_; refine asd ?_; refine rn ?_; refine .gh (Gh.keep [0, 2, 4, 6, 7, 58] rfl) ?_
  by_cases hc : a1.kind = 3
  · replace h := ite_t hc h
    refine cnt (decide_eq_true hc) ?_; refine .seq ?_
    · skip
      refine .region ?_; refine vk (vfa gF_Itm_3) ?_; refine vk (vldp ga_Ars) ?_; refine vk (vlnE (Ars_length _) (Ars_sz _) gu_Ars) ?_; refine vk (vbi) ?_
      by_cases hc : ((List.length a1.box : Nat) : Int) = 1
      · replace h := ite_t hc h
        have hb0 : (decide (((List.length a1.box : Nat) : Int) = 1)) = true := (decide_eq_true hc)
        refine vk (VOK.lit (vmvd) hb0) ?_; refine vk (vmvd) ?_; refine vk (vpkd) ?_
        by_cases hc : ((!a1.num.1) && ((decide (((List.length a1.num.2.1 : Nat) : Int) = 0)) && (decide (((List.length a1.num.2.2 : Nat) : Int) = 0)))) = true
        · replace h := ite_t hc h
          have hb1 : ((!a1.num.1) && ((decide (((List.length a1.num.2.1 : Nat) : Int) = 0)) && (decide (((List.length a1.num.2.2 : Nat) : Int) = 0)))) = true := hc
          refine vk (VOK.lit (vmvd) hb1) ?_; refine vk (vfa gF_Itm_2) ?_; refine vk (vldp ga_int32) ?_; refine vk (vbi) ?_; refine vk (vpkd) ?_
          by_cases hc : a1.char = 0
          · replace h := ite_t hc h
            have hb2 : (decide (a1.char = 0)) = true := (decide_eq_true hc)
            refine vk (VOK.lit (vmvd) hb2) ?_; refine vk (vfa gF_Itm_3) ?_; refine vk (vldp ga_Ars) ?_
            obtain ⟨x4, hx4, h⟩ := bnd h
            obtain ⟨nx4, hnx4, hxx4⟩ := rd_some hx4
            refine vk (vix nx4 hnx4 (Ars_at hxx4) rfl gs_Ars) ?_; refine vk (vlda gA_Arr gS_Arr) ?_
            obtain ⟨x5, hx5, h⟩ := bnd h
            refine vk (vcl0 (array_isSimple_ok hx5) Tryz.call172) ?_; refine vk (vnt) ?_; refine vk (vpkd) ?_
            by_cases hc : x5 = true
            · replace h := ite_t hc h
              have hb3 : (!x5) = false := (ntf hc)
              refine vk (VOK.lit (vmvd) hb3) ?_; refine gf ?_; refine gf ?_; refine gf ?_; refine gf ?_; refine gf ?_; refine gf ?_; refine gf ?_; refine vk (vpkd) ?_; refine asd ?_; refine rn ?_; refine .gh (Gh.keep [6] rfl) ?_; refine .ret ?_
              cases h
              exact ⟨_, ⟨rfl, rfl⟩, .refl hH⟩
            replace h := ite_f hc h
            have hb3 : (!x5) = true := (ntt (bf hc))
            refine vk (VOK.lit (vmvd) hb3) ?_; refine vk (vmvA (av := .bp id 0)) ?_; refine vk (vfa gF_Itm_3) ?_; refine vk (vldp ga_Ars) ?_
            obtain ⟨x6, hx6, h⟩ := bnd h
            obtain ⟨nx6, hnx6, hxx6⟩ := rd_some hx6
            refine vk (vix nx6 hnx6 (Ars_at hxx6) rfl gs_Ars) ?_; refine vk (vlda gA_Arr gS_Arr) ?_; refine vk (vmvd) ?_
            obtain ⟨x7, hx7, h⟩ := bnd h
            refine clR (avs := [.bp id 0, .d (dvA x6), .d (.i .i64 a2)]) (orc x6 a2 c d x7 hx7 H id hH) Tryz.call108 (fun v H' hp => ?_)
            obtain ⟨rfl, hp⟩ := hp
            refine vk (vpkd) ?_; refine asd ?_; refine rn ?_; refine .gh (Gh.keep [6] rfl) ?_; refine .ret ?_
            cases h
            exact ⟨_, ⟨rfl, rfl⟩, rfl, hp⟩
          replace h := ite_f hc h
          have hb2 : (decide (a1.char = 0)) = false := (decide_eq_false hc)
          refine vk (VOK.lit (vmvd) hb2) ?_; refine gf ?_; refine gf ?_; refine gf ?_; refine gf ?_; refine gf ?_; refine gf ?_; refine vk (vpkd) ?_; refine vk (vmvd) ?_; refine gf ?_; refine gf ?_; refine gf ?_; refine gf ?_; refine gf ?_; refine gf ?_; refine gf ?_; refine vk (vpkd) ?_; refine asd ?_; refine rn ?_; refine .gh (Gh.keep [6] rfl) ?_; refine .ret ?_
          cases h
          exact ⟨_, ⟨rfl, rfl⟩, .refl hH⟩
        replace h := ite_f hc h
        have hb1 : ((!a1.num.1) && ((decide (((List.length a1.num.2.1 : Nat) : Int) = 0)) && (decide (((List.length a1.num.2.2 : Nat) : Int) = 0)))) = false := (bf hc)
        refine vk (VOK.lit (vmvd) hb1) ?_; refine gf ?_; refine gf ?_; refine gf ?_; refine vk (vpkd) ?_; refine vk (vmvd) ?_; refine gf ?_; refine gf ?_; refine gf ?_; refine gf ?_; refine gf ?_; refine gf ?_; refine vk (vpkd) ?_; refine vk (vmvd) ?_; refine gf ?_; refine gf ?_; refine gf ?_; refine gf ?_; refine gf ?_; refine gf ?_; refine gf ?_; refine vk (vpkd) ?_; refine asd ?_; refine rn ?_; refine .gh (Gh.keep [6] rfl) ?_; refine .ret ?_
        cases h
        exact ⟨_, ⟨rfl, rfl⟩, .refl hH⟩
      replace h := ite_f hc h
      have hb0 : (decide (((List.length a1.box : Nat) : Int) = 1)) = false := (decide_eq_false hc)
      refine vk (VOK.lit (vmvd) hb0) ?_; refine gf ?_; refine vk (vpkd) ?_; refine vk (vmvd) ?_; refine gf ?_; refine gf ?_; refine gf ?_; refine vk (vpkd) ?_; refine vk (vmvd) ?_; refine gf ?_; refine gf ?_; refine gf ?_; refine gf ?_; refine gf ?_; refine gf ?_; refine vk (vpkd) ?_; refine vk (vmvd) ?_; refine gf ?_; refine gf ?_; refine gf ?_; refine gf ?_; refine gf ?_; refine gf ?_; refine gf ?_; refine vk (vpkd) ?_; refine asd ?_; refine rn ?_; refine .gh (Gh.keep [6] rfl) ?_; refine .ret ?_
      cases h
      exact ⟨_, ⟨rfl, rfl⟩, .refl hH⟩
  replace h := ite_f hc h
  refine cnf (decide_eq_false hc) ?_; refine .skip ?_
  show AW _ _ _ _ _ _
  refine .seq ?_; refine .region ?_; refine asd ?_; refine rn ?_; refine .gh (Gh.keep [6] rfl) ?_; refine .ret ?_
  cases h
  exact ⟨_, ⟨rfl, rfl⟩, .refl hH⟩


def mItsB (rc : Arr → Int → Int → Int → Option M3) (deep : Int) : List Itm → Int → Int → Option M3
  | [], c, d => some (true, c, d)
  | x :: xs, c, d => (mItB rc x deep c d).bind fun z => if z.1 = true then mItsB rc deep xs z.2.1 z.2.2 else some (false, z.2.1, z.2.2)
def stepM (rc : Arr → Int → Int → Int → Option M3) (deep : Int) (x : Itm) (s : Int × Int) : Option (Bool × (Int × Int)) := (mItB rc x deep s.1 s.2).map fun z => (!z.1, z.2)
theorem idx_mIts {rc : Arr → Int → Int → Int → Option M3} {deep : Int} : ∀ {xs : List Itm} {c d : Int} {z : M3} {i : Int}, 0 ≤ i → mItsB rc deep xs c d = some z → ∃ n, idxS (stepM rc deep) xs (c, d) i = some (n, z.2) ∧ (!decide (0 ≤ n)) = z.1
  | [], c, d, z, i, _, h => by cases h; exact ⟨-1, rfl, rfl⟩
  | x :: xs, c, d, z, i, hi, h => by
    rw [mItsB] at h
    obtain ⟨y, hy, h⟩ := bnd h
    have hs : stepM rc deep x (c, d) = some (!y.1, y.2) := by simp [stepM, hy]
    by_cases hc : y.1 = true
    · rw [if_pos hc] at h
      obtain ⟨n, h1, h2⟩ := idx_mIts (i := i + 1) (by omega) h
      refine ⟨n, ?_, h2⟩
      rw [idxS, hs, Option.bind_some, if_neg (by simp [hc])]; exact h1
    · rw [if_neg hc] at h
      cases h
      refine ⟨i, ?_, by simp [hi]⟩
      rw [idxS, hs, Option.bind_some, if_pos (by simp [hc])]
theorem extent_array1_ok {rc : Arr → Int → Int → Int → Option M3} (orc : OA rc) {x : Itm} {deep c d : Int} {z : M3} (h : mItB rc x deep c d = some z) {H : Heap} {id n3 n5 : Nat} (hH : H[id]? = some (EB c d)) (h3 : H[n3]? = some (.box [.bp id 0])) (h5 : H[n5]? = some (.box [.d (.i .i64 deep)])) :
    FnR Tryz.prog 192 [.d (dvI x), .bp n3 0, .bp n5 0] H fun v H' => v = .d (.b (!z.1)) ∧ Upd H id (EB z.2.1 z.2.2) H' := by
  refine FnR.of (rs := [.tmp 4]) 10 Tryz.func192 rfl rfl rfl (by simp) ?_; refine .seq ?_; refine .region ?_; refine vk (vbx) ?_; refine asd ?_; refine rn ?_; refine .seq ?_; refine .region ?_; refine vk (vldbA (cs := [.bp id 0]) (c := .bp id 0) h3 rfl (by kernel_rfl)) ?_; refine vk (vlda gA_Itm gS_Itm) ?_; refine vk (vldb (cs := [.d (.i .i64 deep)]) (c := .i .i64 deep) h5 rfl ga_int) ?_
  refine clR (avs := [.bp id 0, .d (dvI x), .d (.i .i64 deep)]) (extent_item_ok orc h hH) Tryz.call193 (fun v H' hp => ?_)
  obtain ⟨rfl, hp⟩ := hp
  refine vk (vnt) ?_; refine asd ?_; refine rn ?_; refine .ret ?_
  exact ⟨_, ⟨rfl, rfl⟩, rfl, hp⟩
end Go.FL
/-
  (*extent).array, measured, rightItem.
-/
namespace Go.FL
open Go Go.Proofs

theorem Upd.set_new {H H' : Heap} {id n : Nat} {o x : HO} (k : Upd H id o H') (h1 : H.length ≤ n) (h2 : n ≠ id) : Upd H id o (H'.set n x) :=
  ⟨by rw [List.getElem?_set_ne h2]; exact k.1, by simpa using k.2.1, fun j h3 h4 => by rw [List.getElem?_set_ne (by omega)]; exact k.2.2 j h3 h4⟩
theorem Upd.set_id {H H' : Heap} {id : Nat} {o o' : HO} (k : Upd H id o H') : Upd H id o' (H'.set id o') :=
  ⟨List.getElem?_set_self (List.getElem?_eq_some_iff.1 k.1).1, by simpa using k.2.1, fun j h3 h4 => by rw [List.getElem?_set_ne (Ne.symm h3)]; exact k.2.2 j h3 h4⟩

def mArB (rc : Arr → Int → Int → Int → Option M3) (a : Arr) (deep c d : Int) : Option M3 :=
  (array_Size a.shape).bind fun x1 =>
   if x1.2 = 0 then
     if ((List.length a.items : Nat) : Int) = (if x1.1 < 1 then 1 else x1.1) then
        if 16384 < w64 (c + ((List.length a.items : Nat) : Int)) then some (false, w64 (c + ((List.length a.items : Nat) : Int)), d) else
        (array_isSimple a).bind fun sm =>
          if sm = true then (if deep ≤ 16 then mItsB rc deep a.items (w64 (c + ((List.length a.items : Nat) : Int))) d else some (false, w64 (c + ((List.length a.items : Nat) : Int)), d))
          else (if w64 (deep + 1) ≤ 16 then mItsB rc (w64 (deep + 1)) a.items (w64 (c + ((List.length a.items : Nat) : Int))) (if d < w64 (deep + 1) then w64 (deep + 1) else d) else some (false, w64 (c + ((List.length a.items : Nat) : Int)), (if d < w64 (deep + 1) then w64 (deep + 1) else d)))
     else some (false, c, d)
   else some (false, c, d)

set_option maxHeartbeats 4000000 in
set_option maxRecDepth 20000 in
theorem extent_array_ok {rc : Arr → Int → Int → Int → Option M3} (orc : OA rc) {a : Arr} {deep c d : Int} {r : M3} (hlen : a.items.length ≤ 9223372036854775806) (h : mArB rc a deep c d = some r) {H : Heap} {id : Nat} (hH : H[id]? = some (EB c d)) :
    FnR Tryz.prog 108 [.bp id 0, .d (dvA a), .d (.i .i64 deep)] H (PE id r H) := by
  unfold mArB at h
  have hid : id < H.length := (List.getElem?_eq_some_iff.1 hH).1
  refine FnR.of (rs := [.tmp 6]) 63 Tryz.func108 rfl rfl rfl (by simp) ?_; refine .seq ?_; refine .region ?_; refine bxA (c := .bp id 0) ?_; refine vk (vbx) ?_; refine bxA (c := .d (.i .i64 deep)) ?_; refine asd ?_
  have f0 : Upd H id (EB c d) (H ++ [.box [.bp id 0]] ++ [.box [.d (.i .i64 deep)]]) := by
    refine ⟨?_, by simp, fun j h1 h2 => ?_⟩
    · rw [List.append_assoc, List.getElem?_append_left hid]; exact hH
    · rw [List.append_assoc, List.getElem?_append_left h2]
  have f3 : (H ++ [HO.box [AV.bp id 0]] ++ [.box [.d (.i .i64 deep)]])[H.length]? = some (.box [.bp id 0]) := by simp
  have f5 : (H ++ [HO.box [AV.bp id 0]] ++ [.box [.d (.i .i64 deep)]])[(H ++ [HO.box [AV.bp id 0]]).length]? = some (.box [.d (.i .i64 deep)]) := by
    rw [List.getElem?_append_right (Nat.le_refl _)]; simp
  have g3 : H.length ≠ id := by omega
  have g5 : (H ++ [HO.box [AV.bp id 0]]).length ≠ id := by simp; omega
  have g5' : H.length ≤ (H ++ [HO.box [AV.bp id 0]]).length := by simp
  have g35 : H.length ≠ (H ++ [HO.box [AV.bp id 0]]).length := by simp
  have g3' : H.length ≤ H.length := Nat.le_refl _
  generalize H ++ [HO.box [AV.bp id 0]] ++ [.box [.d (.i .i64 deep)]] = H2 at f0 f3 f5 ⊢
  generalize (H ++ [HO.box [AV.bp id 0]]).length = n5 at f5 g5 g5' g35 ⊢
  obtain ⟨n3, hn3⟩ : ∃ n3, n3 = H.length := ⟨_, rfl⟩
  rw [← hn3] at f3 g3 g35
  rw [← hn3]
  have f1 := f0.1
  refine rn ?_; refine .gh (Gh.keep [3, 4, 5] rfl) ?_; refine .seq ?_; refine .region ?_; refine vk (vfa gF_Arr_0) ?_; refine vk (vldp ga_Is) ?_
  obtain ⟨x1, hx1, h⟩ := bnd h
  refine vk (VOK.tupd (vs := [.i .i64 x1.1, .i .i64 x1.2]) (vcl0 (array_Size_ok hx1) Tryz.call98)) ?_; refine vk (vmvd) ?_; refine vk (vex) ?_; refine vk (vex) ?_; refine asd ?_; refine asd ?_; refine rn ?_; refine .gh (Gh.keep [3, 4, 5, 7, 8] rfl) ?_; refine .seq ?_; refine .seq ?_; refine .region ?_; refine vk (vmvd) ?_; refine vk (vbi) ?_
  by_cases hc : x1.2 = 0
  rotate_left
  · rw [if_neg hc] at h
    cases h
    refine vk (VOK.lit (vmvd) (show (!decide (x1.2 = 0)) = true by simp [hc])) ?_; refine gf ?_; refine gf ?_; refine gf ?_; refine gf ?_; refine gf ?_; refine gf ?_; refine vk (vpkd) ?_; refine rn ?_; refine cnt rfl ?_; refine .seq ?_; refine .region ?_; refine asd ?_; refine rn ?_; refine .ret ?_
    exact ⟨_, ⟨rfl, rfl⟩, rfl, f0⟩
  rw [if_pos hc] at h
  refine vk (VOK.lit (vmvd) (show (!decide (x1.2 = 0)) = false by simp [hc])) ?_; refine vk (vfa gF_Arr_1) ?_; refine vk (vldp ga_Its) ?_; refine vk (vlnE (Its_length _) (Its_sz _) gu_Its) ?_; refine vk (vmvd) ?_; refine vk (vmx) ?_; refine vk (vbi) ?_; refine vk (vpkd) ?_; refine rn ?_
  by_cases hc : ((List.length a.items : Nat) : Int) = (if x1.1 < 1 then 1 else x1.1)
  rotate_left
  · rw [if_neg hc] at h
    cases h
    refine cnt (ntt (decide_eq_false hc)) ?_; refine .seq ?_; refine .region ?_; refine asd ?_; refine rn ?_; refine .ret ?_
    exact ⟨_, ⟨rfl, rfl⟩, rfl, f0⟩
  rw [if_pos hc] at h
  refine cnf (ntf (decide_eq_true hc)) ?_; refine .skip ?_
  show AW _ _ _ _ _ _
  refine .gh (Gh.keep [3, 4, 5] rfl) ?_; refine .seq ?_; refine .drawn 10 mixed (by kernel_rfl) ?_; refine dv (vldbA (cs := [.bp id 0]) (c := .bp id 0) f3 rfl (by kernel_rfl)) ?_; refine dv (vncb) ?_; refine dv (vfab gF_Ex_0) ?_; refine dv (vldb (cs := [.d (.i .i64 c), .d (.i .i64 d)]) (c := .i .i64 c) f1 rfl ga_int) ?_; refine dv (vfa gF_Arr_1) ?_; refine dv (vldp ga_Its) ?_; refine dv (vlnE (Its_length _) (Its_sz _) gu_Its) ?_; refine dv (vbi) ?_; refine dv (vncb) ?_; refine dv (vfab gF_Ex_0) ?_; refine dz ?_
  refine stb (cs := [.d (.i .i64 c), .d (.i .i64 d)]) (c := .d (.i .i64 c)) f1 rfl ?_ gz_int
  have q0 := f0.set_id (o' := EB (w64 (c + ((List.length a.items : Nat) : Int))) d)
  have q3 : (H2.set id (EB (w64 (c + ((List.length a.items : Nat) : Int))) d))[n3]? = some (.box [.bp id 0]) := by rw [List.getElem?_set_ne (Ne.symm g3)]; exact f3
  have q5 : (H2.set id (EB (w64 (c + ((List.length a.items : Nat) : Int))) d))[n5]? = some (.box [.d (.i .i64 deep)]) := by rw [List.getElem?_set_ne (Ne.symm g5)]; exact f5
  refine rn ?_
  change AW _ _ _ _ _ (H2.set id (EB (w64 (c + ((List.length a.items : Nat) : Int))) d))
  generalize H2.set id (EB (w64 (c + ((List.length a.items : Nat) : Int))) d) = H3 at q0 q3 q5 ⊢
  generalize w64 (c + ((List.length a.items : Nat) : Int)) = c1 at h q0 ⊢
  have q1 := q0.1
  refine .gh (Gh.keep [3, 4, 5] rfl) ?_; refine .seq ?_; refine .seq ?_; refine .region ?_; refine vk (vldbA (cs := [.bp id 0]) (c := .bp id 0) q3 rfl (by kernel_rfl)) ?_; refine vk (vncb) ?_; refine vk (vfab gF_Ex_0) ?_; refine vk (vldb (cs := [.d (.i .i64 c1), .d (.i .i64 d)]) (c := .i .i64 c1) q1 rfl ga_int) ?_; refine vk (vbi) ?_; refine rn ?_
  by_cases hc : 16384 < c1
  · rw [if_pos hc] at h
    cases h
    refine cnt (decide_eq_true hc) ?_; refine .seq ?_; refine .region ?_; refine asd ?_; refine rn ?_; refine .ret ?_
    exact ⟨_, ⟨rfl, rfl⟩, rfl, q0⟩
  rw [if_neg hc] at h
  refine cnf (decide_eq_false hc) ?_; refine .skip ?_
  show AW _ _ _ _ _ _
  refine .gh (Gh.keep [3, 4, 5] rfl) ?_; refine .seq ?_
  obtain ⟨sm, hsm, h⟩ := bnd h
  refine .seq ?_; refine .region ?_; refine vk (vlda gA_Arr gS_Arr) ?_; refine vk (vcl0 (array_isSimple_ok hsm) Tryz.call172) ?_; refine vk (vnt) ?_; refine rn ?_
  refine AW.mr (σ := Heap × Int × Int) (fun s => Upd H id (EB c1 s.2.2) s.1 ∧ s.1[n3]? = some (.box [.bp id 0]) ∧ s.1[n5]? = some (.box [.d (.i .i64 s.2.1)]) ∧ (if s.2.1 ≤ 16 then mItsB rc s.2.1 a.items c1 s.2.2 else some (false, c1, s.2.2)) = some r)
    (fun _ => [(3, .bp n3 0), (4, .d (.ptr [.sl (Is a.shape), .sl (Its a.items)])), (5, .bp n5 0)]) (fun s => s.1) ?_ ?_
  · by_cases hs : sm = true
    · rw [if_pos hs] at h
      refine cnf (ntf hs) ?_; refine .gh (Gh.keep [3, 4, 5] rfl) ?_; refine .skip ?_
      exact jr (H3, deep, d) ⟨q0, q3, q5, h⟩
    rw [if_neg hs] at h
    refine cnt (ntt (bf hs)) ?_; refine .seq ?_; refine .region ?_; refine vk (vldb (cs := [.d (.i .i64 deep)]) (c := .i .i64 deep) q5 rfl ga_int) ?_; refine vk (vbi) ?_
    refine stb (cs := [.d (.i .i64 deep)]) (c := .d (.i .i64 deep)) q5 rfl ?_ gz_int
    have p0 := q0.set_new (n := n5) (x := .box [.d (.i .i64 (w64 (deep + 1)))]) g5' g5
    have p3 : (H3.set n5 (.box [.d (.i .i64 (w64 (deep + 1)))]))[n3]? = some (.box [.bp id 0]) := by rw [List.getElem?_set_ne (Ne.symm g35)]; exact q3
    have p5 : (H3.set n5 (.box [.d (.i .i64 (w64 (deep + 1)))]))[n5]? = some (.box [.d (.i .i64 (w64 (deep + 1)))]) := List.getElem?_set_self (List.getElem?_eq_some_iff.1 q5).1
    refine rn ?_
    change AW _ _ _ _ _ (H3.set n5 (.box [.d (.i .i64 (w64 (deep + 1)))]))
    generalize H3.set n5 (.box [.d (.i .i64 (w64 (deep + 1)))]) = H4 at p0 p3 p5 ⊢
    generalize w64 (deep + 1) = dp at h p5 ⊢
    have p1 := p0.1
    refine .gh (Gh.keep [3, 4, 5] rfl) ?_; refine .drawn 9 mixed (by kernel_rfl) ?_; refine dv (vldbA (cs := [.bp id 0]) (c := .bp id 0) p3 rfl (by kernel_rfl)) ?_; refine dv (vldbA (cs := [.bp id 0]) (c := .bp id 0) p3 rfl (by kernel_rfl)) ?_; refine dv (vncb) ?_; refine dv (vfab gF_Ex_1) ?_; refine dv (vldb (cs := [.d (.i .i64 c1), .d (.i .i64 d)]) (c := .i .i64 d) p1 rfl ga_int) ?_; refine dv (vldb (cs := [.d (.i .i64 dp)]) (c := .i .i64 dp) p5 rfl ga_int) ?_; refine dv (vmx) ?_; refine dv (vncb) ?_; refine dv (vfab gF_Ex_1) ?_; refine dz ?_
    refine stb (cs := [.d (.i .i64 c1), .d (.i .i64 d)]) (c := .d (.i .i64 d)) p1 rfl ?_ gz_int
    have w0 := p0.set_id (o' := EB c1 (if d < dp then dp else d))
    have w3 : (H4.set id (EB c1 (if d < dp then dp else d)))[n3]? = some (.box [.bp id 0]) := by rw [List.getElem?_set_ne (Ne.symm g3)]; exact p3
    have w5 : (H4.set id (EB c1 (if d < dp then dp else d)))[n5]? = some (.box [.d (.i .i64 dp)]) := by rw [List.getElem?_set_ne (Ne.symm g5)]; exact p5
    refine RL.gh (Gh.keep [3, 4, 5] rfl) ?_; refine .nil ?_
    exact jr (H4.set id (EB c1 (if d < dp then dp else d)), dp, (if d < dp then dp else d)) ⟨w0, w3, w5, h⟩
  rintro ⟨H5, dp, d1⟩ ⟨u0, u3, u5, h⟩
  dsimp only at u0 u3 u5 h ⊢
  show AW _ _ _ _ _ _
  refine .seq ?_; refine .region ?_; refine vk (vldb (cs := [.d (.i .i64 dp)]) (c := .i .i64 dp) u5 rfl ga_int) ?_; refine vk (vbi) ?_
  by_cases hc : dp ≤ 16
  rotate_left
  · rw [if_neg hc] at h
    cases h
    refine vk (VOK.lit (vmvd) (decide_eq_false hc)) ?_; refine gf ?_; refine gf ?_; refine gf ?_; refine gf ?_; refine gf ?_; refine vk (vpkd) ?_; refine asd ?_; refine rn ?_; refine .ret ?_
    exact ⟨_, ⟨rfl, rfl⟩, rfl, u0⟩
  rw [if_pos hc] at h
  refine vk (VOK.lit (vmvd) (decide_eq_true hc)) ?_; refine vk (vfa gF_Arr_1) ?_; refine vk (vldp ga_Its) ?_; refine mkfA (avs := [.bp n3 0, .bp n5 0]) ?_
  obtain ⟨n, h1, h2⟩ := idx_mIts (Int.le_refl 0) h
  have step := ContainsFuncI_R (S := Int × Int) (step := stepM rc dp) (st := fun s H' => Upd H id (EB s.1 s.2) H' ∧ H'[n3]? = some (.box [.bp id 0]) ∧ H'[n5]? = some (.box [.d (.i .i64 dp)])) (caps := [.bp n3 0, .bp n5 0]) Tryz.call192 rfl
    (fun x s y H' hs hy => by
      obtain ⟨hs0, hs3, hs5⟩ := hs
      simp only [stepM, Option.map_eq_some_iff] at hy
      obtain ⟨z, hz, rfl⟩ := hy
      refine (extent_array1_ok orc hz hs0.1 hs3 hs5).mono fun v H'' hp => ⟨hp.1, hs0.trans hp.2, ?_, ?_⟩
      · rw [hp.2.2.2 n3 g3 (List.getElem?_eq_some_iff.1 hs3).1]; exact hs3
      · rw [hp.2.2.2 n5 g5 (List.getElem?_eq_some_iff.1 hs5).1]; exact hs5)
    hlen h1 (H := H5) ⟨u0, u3, u5⟩
  refine clR (avs := [.d (.sl (Its a.items)), .fn 192 [] [.bp n3 0, .bp n5 0]]) step Tryz.call179 (fun v H' hp => ?_)
  obtain ⟨rfl, hp⟩ := hp
  refine vk (vnt) ?_
  rw [h2]
  refine vk (vpkd) ?_; refine asd ?_; refine rn ?_; refine .ret ?_
  exact ⟨_, ⟨rfl, rfl⟩, rfl, hp.1⟩
end Go.FL
/-
  measured, rightItem: what they tell.
-/
namespace Go.FL
open Go Go.Proofs

def mAr_r : Nat → Arr → Int → Int → Int → Option M3
  | 0, _, _, _, _ => none
  | k + 1, a, deep, c, d => if a.items.length ≤ 9223372036854775806 then mArB (mAr_r k) a deep c d else none
theorem mAr_r_ok : ∀ k, OA (mAr_r k)
  | 0 => fun _ _ _ _ _ h => by cases h
  | k + 1 => fun a deep c d r h H id hH => by
    rw [mAr_r] at h
    obtain ⟨hl, h⟩ := ite_n h
    exact extent_array_ok (mAr_r_ok k) hl h hH
def mAr (a : Arr) (deep c d : Int) : Option M3 := mAr_r (a.size + 1) a deep c d
def mIt (x : Itm) (deep c d : Int) : Option M3 := mItB mAr x deep c d
theorem mAr_ok : OA mAr := fun a deep c d r h => mAr_r_ok _ a deep c d r h

def arMeasured (a : Arr) : Option ((Int × Int) × Bool) := (mAr a 0 0 0).map fun z => if z.1 = true then (z.2, true) else ((0, 0), false)
theorem arMeasured_ok {a : Arr} {r : (Int × Int) × Bool} (h : arMeasured a = some r) : Fn Tryz.prog 36 [dvA a] (.tup [.d (.ag [.i .i64 r.1.1, .i .i64 r.1.2]), .d (.b r.2)]) := by
  simp only [arMeasured, Option.map_eq_some_iff] at h
  obtain ⟨z, hz, rfl⟩ := h
  refine Fn.ofC (rs := [.cell 2 69, .tmp 3]) (nt := 10) Tryz.func36 rfl rfl rfl (by simp) rfl ?_; refine .seq ?_; refine .region ?_; refine vk (vbx) ?_; refine vk (van (zero_of gI_Ex) gZ_Ex) ?_; refine asd ?_; refine rn ?_; refine .seq ?_; refine .region ?_
  refine al ?_ (zero_of gI_Ex) (fun w I μ => gZA_Ex w I μ)
  refine rn ?_; refine .seq ?_; refine .seq ?_; refine .region ?_; refine vk (vlda gA_Arr gS_Arr) ?_
  refine clR (avs := [.bp 0 0, .d (dvA a), .d (.i .i64 0)]) (mAr_ok a 0 0 0 z hz _ 0 rfl) Tryz.call108 (fun v H' hp => ?_)
  obtain ⟨rfl, hp⟩ := hp
  refine vk (vnt) ?_; refine rn ?_
  by_cases hc : z.1 = true
  · rw [if_pos hc]
    refine cnf (ntf hc) ?_; refine .skip ?_
    show AW _ _ _ _ _ _
    refine .seq ?_; refine .region ?_; refine vk (vldba (cs := [.d (.i .i64 z.2.1), .d (.i .i64 z.2.2)]) (ds := [.i .i64 z.2.1, .i .i64 z.2.2]) hp.1 gA_Ex gS_Ex) ?_
    refine stn ?_ gS_Ex (by decide)
    refine asd ?_; refine rn ?_; refine .ret ?_
    exact ⟨_, _, ⟨.inr rfl, gA_Ex, gS_Ex, (by decide : (0 : Nat) < 2)⟩, rfl, rfl⟩
  · rw [if_neg hc]
    refine cnt (ntt (bf hc)) ?_; refine .seq ?_; refine .region ?_; refine vk (vbd gP_Ex gI_Ex gZ_Ex) ?_
    refine stn ?_ gS_Ex (by decide)
    refine asd ?_; refine rn ?_; refine .ret ?_
    exact ⟨_, _, ⟨.inr rfl, gA_Ex, gS_Ex, (by decide : (0 : Nat) < 2)⟩, rfl, rfl⟩
def arRightItem (x : Itm) : Option Bool := (mIt x 0 0 0).map fun z => z.1
theorem arRightItem_ok {x : Itm} {r : Bool} (h : arRightItem x = some r) : Fn Tryz.prog 181 [dvI x] (.d (.b r)) := by
  simp only [arRightItem, Option.map_eq_some_iff] at h
  obtain ⟨z, hz, rfl⟩ := h
  refine Fn.of (rs := [.tmp 2]) (nt := 6) Tryz.func181 rfl rfl rfl (by simp) rfl ?_; refine .seq ?_; refine .region ?_; refine vk (vbx) ?_; refine asd ?_; refine rn ?_; refine .seq ?_; refine .region ?_
  refine al ?_ (zero_of gI_Ex) (fun w I μ => gZA_Ex w I μ)
  refine vk (vlda gA_Itm gS_Itm) ?_
  refine clR (avs := [.bp 0 0, .d (dvI x), .d (.i .i64 0)]) (extent_item_ok mAr_ok hz (id := 0) rfl) Tryz.call193 (fun v H' hp => ?_)
  obtain ⟨rfl, hp⟩ := hp
  refine asd ?_; refine rn ?_; refine .ret ?_
  exact ⟨rfl, rfl⟩
end Go.FL
/-
  rat.ToInt, by hand: a loop over an iterator.
-/
namespace Go.FL
open Go Go.Proofs

def intV (s : Bool) (n : Nat) : Int × Bool := if s = true then (if n ≤ 9223372036854775808 then (-(n : Int), true) else (0, false)) else if n < 9223372036854775808 then ((n : Int), true) else (0, false)
def ratToInt (a : RT) : Option (Int × Bool) := (rat_IsInt a).bind fun b => if b = true then (if (okL 1048576 a.2.1 && decide (digs (val a.2.1) = a.2.1)) = true then some (if bitsN (val a.2.1) ≤ 64 then intV a.1 (val a.2.1) else (0, false)) else none) else some (0, false)
theorem zu64 (w : World) : (zeroValue 131).run Tryz.prog w = .ok (.int .u64 0) w := by
  simp
theorem zu1 : szOf Tryz.prog 131 = 1 := by kernel_rfl
theorem au1 : aggT Tryz.prog 131 = some false := by kernel_rfl
theorem val_two {xs : List Nat} (h : Ok xs) (hl : xs.length ≤ 2) : ∀ j, val (xs.drop (j + 1)) < 4294967296 := by
  intro j
  match xs, hl with
  | [], _ => simp [val]
  | [x], _ => cases j <;> simp [val]
  | [x, y], _ =>
    have hy : y < 4294967296 := h y (by simp)
    cases j with
    | zero => simp [val]; omega
    | succ j => cases j <;> simp [val]
theorem neg_wrap {n : Nat} (h : n ≤ 9223372036854775808) : IntKind.i64.wrap (IntKind.u64.wrap (0 - (n : Int))) = -(n : Int) := by
  simp only [IntKind.wrap, IntKind.bits, IntKind.signed]; simp; omega
theorem ratToInt_ok {a : RT} {r : Int × Bool} (h : ratToInt a = some r) : Fn Tryz.prog 171 [.ag [.b a.1, .sl (L a.2.1), .sl (L a.2.2)]] (.tup [.d (.i .i64 r.1), .d (.b r.2)]) := by
  unfold ratToInt at h
  obtain ⟨x1, hx1, h⟩ := bnd h
  refine Fn.ofM (rs := [.tmp 2, .tmp 3]) (nt := 46) Tryz.func171 rfl rfl rfl (by simp) rfl ?_; refine .seqA ?_; refine .region ?_; refine vk (vbx) ?_; refine asd ?_; refine asd ?_; refine rn ?_
  show AWM _ _ _ _ _ _
  refine .seqA ?_; refine .seq ?_; refine .region ?_; refine vk (vlda gA_R gS_R) ?_; refine vk (vcl0 (rat_IsInt_ok hx1) Tryz.call206) ?_; refine vk (vnt) ?_
  cases x1 with
  | false =>
    replace h := ite_f (by decide) h
    refine mvd ?_; refine gf ?_; refine gf ?_; refine gf ?_; refine gf ?_; refine vk (vpkd) ?_; refine rn ?_; refine cnt rfl ?_; refine .seq ?_; refine .region ?_; refine asd ?_; refine asd ?_; refine rn ?_; refine .ret ?_
    cases h
    exact ⟨by decide, rfl, rfl, rfl⟩
  | true =>
    replace h := ite_t rfl h
    obtain ⟨hc, h⟩ := ite_n h
    rw [Bool.and_eq_true, okL_iff] at hc
    obtain ⟨⟨hok, hlen⟩, hdg⟩ := hc
    have hdg := of_decide_eq_true hdg
    refine mvd ?_; refine vk (vfa gF_R_1) ?_; refine vk (vldp ga_L) ?_
    refine cl (xs := [.sl (L a.2.1)]) ?_ (Bits_fn hok hlen) Tryz.call223
    refine vk (vbi) ?_; refine vk (vpkd) ?_; refine rn ?_
    by_cases hb : bitsN (val a.2.1) ≤ 64
    · rw [if_pos hb] at h
      cases h
      have hb1 : decide ((64 : Int) < (bitsN (val a.2.1) : Nat)) = false := decide_eq_false (by omega)
      refine cnf hb1 ?_; refine .skip ?_
      show AWM _ _ _ _ _ _
      have hv64 : val a.2.1 < 18446744073709551616 := bitsN_iff.1 hb
      have hlen2 : a.2.1.length ≤ 2 := by rw [← hdg]; exact digs_len (by omega)
      have hvs := val_two hok hlen2
      refine .seqA ?_; refine .region ?_
      refine al ?_ zu64 (fun w I μ => .cons (c := .d (.i .u64 0)) (b1 := []) (.d (.i _ _)) .nil)
      refine stb (cs := [.d (.i .u64 0)]) (c := .d (.i .u64 0)) rfl rfl ?_ zu1
      refine rn ?_
      show AWM _ _ _ _ _ _
      refine .seq rfl ?_; refine .seqA ?_; refine .region ?_; refine vk (vfa gF_R_1) ?_; refine vk (vldp ga_L) ?_
      refine cl (xs := [.sl (L a.2.1)]) ?_ (Backward_fn (L a.2.1)) Tryz.call224
      refine rn ?_
      show AWM _ _ _ _ _ _
      obtain ⟨s, xs, den⟩ := a
      dsimp only at *
      have hys : ∀ ds ∈ backY (L xs), ds.length = 2 := fun ds hds => by
        obtain ⟨k, hk⟩ := List.getElem?_of_mem hds
        rw [(backY_at hk).2]; rfl
      have hit := bw_it (L xs) (by intro x hx; simp only [L, List.mem_map] at hx; obtain ⟨n, _, rfl⟩ := hx; rfl) (by rw [L_length]; omega)
      refine .block ?_; refine .rangeFunc rfl rfl rfl Tryz.call243 hit hys (by decide) (by decide) rfl (fun k => [.box [.d (.i .u64 ((val (xs.drop (xs.length - k)) : Nat) : Int))]]) (by simp [val]) ?_ ?_
      · intro l k d1 d2 hk
        obtain ⟨hk1, hk2⟩ := backY_at hk
        rw [L_length] at hk1 hk2
        have hj : xs.length - 1 - k < xs.length := by omega
        have hxat : (L xs).getD (xs.length - 1 - k) .np = U xs[xs.length - 1 - k] := by
          rw [List.getD_eq_getElem?_getD, L_at (List.getElem?_eq_getElem hj)]; rfl
        rw [hxat] at hk2
        simp only [List.cons.injEq, and_true] at hk2
        obtain ⟨rfl, rfl⟩ := hk2
        have hva := val_at hj
        have hx := hok.at (List.getElem?_eq_getElem hj)
        have hsm := hvs (xs.length - 1 - k)
        have e1 : xs.length - 1 - k + 1 = xs.length - k := by omega
        have e2 : xs.length - (k + 1) = xs.length - 1 - k := by omega
        rw [e1] at hva hsm
        rw [e2]
        generalize xs[xs.length - 1 - k] = x at *
        generalize val (xs.drop (xs.length - k)) = n at *
        rw [hva]
        refine .region ?_; refine asd ?_; refine rn ?_
        show AW _ _ _ _ _ _
        refine .block ?_; refine .region ?_
        refine ldb (cs := [.d (.i .u64 (n : Int))]) (c := .d (.i .u64 (n : Int))) rfl rfl ?_ au1
        refine bie (.i .u64 ((n * 4294967296 : Nat) : Int)) ?_ ?_
        · refine ⟨by decide, ?_⟩
          have : IntKind.u64.wrap ((n : Int) * 4294967296) = ((n * 4294967296 : Nat) : Int) := by
            rw [wraps_u64 _ (by omega) (by omega)]; omega
          rw [← this]; simp [IntKind.bits]
        refine mvd ?_
        refine cve (x : Int) (wraps_u64 _ (by omega) (by omega)) ?_ u32 u64
        refine bie (.i .u64 ((n * 4294967296 + x : Nat) : Int)) ?_ ?_
        · exact ⟨trivial, by rw [u64_join hsm hx]⟩
        refine stb (cs := [.d (.i .u64 (n : Int))]) (c := .d (.i .u64 (n : Int))) rfl rfl ?_ zu1
        refine .nil ?_
        refine ⟨rfl, ?_⟩
        rw [show n * 4294967296 + x = x + 4294967296 * n by omega]
        rfl
      · show AWM _ _ _ _ _ _
        refine .lift ?_
        rw [backY_length, L_length, Nat.sub_self, List.drop_zero]
        have hn : val xs < 18446744073709551616 := hv64
        generalize val xs = n at *
        cases s with
        | true =>
          refine .seq ?_; refine .block ?_; refine .seq ?_; refine .region ?_; refine vk (vfa gF_R_0) ?_; refine vk (vldp ga_bool) ?_; refine mvd ?_
          refine ldb (cs := [.d (.i .u64 (n : Int))]) (c := .d (.i .u64 (n : Int))) rfl rfl ?_ au1
          refine vk (vbi) ?_; refine vk (vpkd) ?_; refine asd ?_; refine rn ?_
          by_cases hle : n ≤ 9223372036854775808
          · refine cnt (decide_eq_true (show (n : Int) ≤ 9223372036854775808 by omega)) ?_
            refine .seq ?_; refine .region ?_
            refine ldb (cs := [.d (.i .u64 (n : Int))]) (c := .d (.i .u64 (n : Int))) rfl rfl ?_ au1
            refine vk (vng) ?_; refine vk (vcv u64 i64) ?_; refine asd ?_; refine asd ?_; refine rn ?_; refine .ret ?_
            refine ⟨by decide, ?_, rfl, rfl⟩
            rw [show intV true n = (-(n : Int), true) by rw [intV, if_pos rfl, if_pos hle], ← neg_wrap hle]; rfl
          · refine cnf (decide_eq_false (show ¬ ((n : Int) ≤ 9223372036854775808) by omega)) ?_
            refine .seq ?_; refine .region ?_; refine vk (vfa gF_R_0) ?_; refine vk (vldp ga_bool) ?_; refine vk (vnt) ?_; refine mvd ?_; refine gf ?_; refine gf ?_; refine vk (vpkd) ?_; refine asd ?_; refine rn ?_; refine cnf rfl ?_; refine .skip ?_
            show AW _ _ _ _ _ _
            refine .seq ?_; refine .region ?_; refine asd ?_; refine asd ?_; refine rn ?_; refine .ret ?_
            exact ⟨by decide, by rw [show intV true n = (0, false) by rw [intV, if_pos rfl, if_neg hle]]; rfl, rfl, rfl⟩
        | false =>
          refine .seq ?_; refine .block ?_; refine .seq ?_; refine .region ?_; refine vk (vfa gF_R_0) ?_; refine vk (vldp ga_bool) ?_; refine mvd ?_; refine gf ?_; refine gf ?_; refine vk (vpkd) ?_; refine asd ?_; refine rn ?_; refine cnf rfl ?_; refine .seq ?_; refine .region ?_; refine vk (vfa gF_R_0) ?_; refine vk (vldp ga_bool) ?_; refine vk (vnt) ?_; refine mvd ?_
          refine ldb (cs := [.d (.i .u64 (n : Int))]) (c := .d (.i .u64 (n : Int))) rfl rfl ?_ au1
          refine vk (vbi) ?_; refine vk (vpkd) ?_; refine asd ?_; refine rn ?_
          by_cases hlt : n < 9223372036854775808
          · refine cnt (decide_eq_true (show (n : Int) < 9223372036854775808 by omega)) ?_
            refine .seq ?_; refine .region ?_
            refine ldb (cs := [.d (.i .u64 (n : Int))]) (c := .d (.i .u64 (n : Int))) rfl rfl ?_ au1
            refine vk (vcv u64 i64) ?_; refine asd ?_; refine asd ?_; refine rn ?_; refine .ret ?_
            refine ⟨by decide, ?_, rfl, rfl⟩
            rw [show intV false n = ((n : Int), true) by rw [intV, if_neg (by decide), if_pos hlt]]
            have := wraps_i64 (n : Int) (by omega) (by omega)
            exact (show AV.tup [.d (.i .i64 (n : Int)), .d (.b true)] = .tup [.d (.i .i64 (IntKind.i64.wrap (n : Int))), .d (.b true)] by rw [this]).trans rfl
          · refine cnf (decide_eq_false (show ¬ ((n : Int) < 9223372036854775808) by omega)) ?_
            refine .skip ?_
            show AW _ _ _ _ _ _
            refine .seq ?_; refine .region ?_; refine asd ?_; refine asd ?_; refine rn ?_; refine .ret ?_
            exact ⟨by decide, by rw [show intV false n = (0, false) by rw [intV, if_neg (by decide), if_neg hlt]]; rfl, rfl, rfl⟩
    · rw [if_neg hb] at h
      cases h
      have hb1 : decide ((64 : Int) < (bitsN (val a.2.1) : Nat)) = true := decide_eq_true (by omega)
      refine cnt hb1 ?_; refine .seq ?_; refine .region ?_; refine asd ?_; refine asd ?_; refine rn ?_; refine .ret ?_
      exact ⟨by decide, rfl, rfl, rfl⟩
end Go.FL
/-
  GP: array: what is made.
-/
namespace Go.FL
open Go Go.Proofs

def array_Right (a0 : Arr) : Option (Bool) := ((arMeasured a0).bind fun x1 => (some (x1.2)))
theorem array_Right_ok {a0 : Arr} {r : Bool} (h : array_Right a0 = some r) :
    Fn Tryz.prog 13 [.ag [.sl (Is a0.shape), .sl (Its a0.items)]] (.d (.b r)) := by
  unfold array_Right at h
  refine Fn.of (rs := [.tmp 2]) (nt := 11) Tryz.func13 rfl rfl rfl (by simp) rfl ?_; refine .seq ?_; refine .region ?_; refine vk (vbx) ?_; refine asd ?_; refine rn ?_; refine .gh (Gh.keep [1, 2] rfl) ?_; refine .seq ?_; refine .region ?_; refine vk (vlda gA_Arr gS_Arr) ?_
  obtain ⟨x1, hx1, h⟩ := bnd h
  refine vk (VOK.tupd (vs := [.ag [.i .i64 x1.1.1, .i .i64 x1.1.2], .b x1.2]) (vcl0 (arMeasured_ok hx1) Tryz.call36)) ?_; refine vk (vmvd) ?_; refine vk (vex) ?_; refine vk (vex) ?_; refine vk (van (zero_of gI_Ex) gZ_Ex) ?_
  refine stn ?_ gS_Ex (by decide)
  refine asd ?_; refine rn ?_; refine .gh (Gh.keep [2, 4] rfl) ?_; refine .seq ?_; refine .region ?_; refine vk (vmvd) ?_; refine asd ?_; refine rn ?_; refine .gh (Gh.keep [2] rfl) ?_; refine .ret ?_
  cases h
  exact ⟨rfl, rfl⟩

def array_Cells (a0 : Arr) : Option (Int) := ((arMeasured a0).bind fun x1 => (some (x1.1.1)))
theorem array_Cells_ok {a0 : Arr} {r : Int} (h : array_Cells a0 = some r) :
    Fn Tryz.prog 184 [.ag [.sl (Is a0.shape), .sl (Its a0.items)]] (.d (.i .i64 r)) := by
  unfold array_Cells at h
  refine Fn.of (rs := [.tmp 2]) (nt := 12) Tryz.func184 rfl rfl rfl (by simp) rfl ?_; refine .seq ?_; refine .region ?_; refine vk (vbx) ?_; refine asd ?_; refine rn ?_; refine .gh (Gh.keep [1, 2] rfl) ?_; refine .seq ?_; refine .region ?_; refine vk (vlda gA_Arr gS_Arr) ?_
  obtain ⟨x1, hx1, h⟩ := bnd h
  refine vk (VOK.tupd (vs := [.ag [.i .i64 x1.1.1, .i .i64 x1.1.2], .b x1.2]) (vcl0 (arMeasured_ok hx1) Tryz.call36)) ?_; refine vk (vmvd) ?_; refine vk (vex) ?_; refine vk (vex) ?_; refine vk (van (zero_of gI_Ex) gZ_Ex) ?_
  refine stn ?_ gS_Ex (by decide)
  refine asd ?_; refine rn ?_; refine .gh (Gh.keep [2, 3] rfl) ?_; refine .seq ?_; refine .gh (Gh.nbp (t := 3) rfl) ?_; refine .region ?_; refine vk (vfa gF_Ex_0) ?_; refine vk (vldp ga_int) ?_; refine asd ?_; refine rn ?_; refine .gh (Gh.keep [2] rfl) ?_; refine .ret ?_
  cases h
  exact ⟨rfl, rfl⟩

def array_Match (a0 : Arr) (a1 : Arr) : Option (Bool) := ((array_Right a0).bind fun x1 => (Option.bind ((if x1 = true then ((array_Right a1).bind fun x3 => (if x3 = true then ((ar_equal a0 a1).bind fun x4 => (some x4)) else (some false))) else (some false)) : Option (Bool)) fun (z1 : Bool) => (some (z1))))
theorem array_Match_ok {a0 : Arr} {a1 : Arr} {r : Bool} (h : array_Match a0 a1 = some r) :
    Fn Tryz.prog 14 [.ag [.sl (Is a0.shape), .sl (Its a0.items)], .ag [.sl (Is a1.shape), .sl (Its a1.items)]] (.d (.b r)) := by
  unfold array_Match at h
  refine Fn.of (rs := [.tmp 4]) (nt := 16) Tryz.func14 rfl rfl rfl (by simp) rfl ?_; refine .seq ?_; refine .region ?_; refine vk (vbx) ?_; refine vk (vbx) ?_; refine asd ?_; refine rn ?_; refine .gh (Gh.keep [2, 3, 4] rfl) ?_; refine .seq ?_
  obtain ⟨x1, hx1, h⟩ := bnd h
  obtain ⟨z1, hz, h⟩ := bnd h
  refine AW.mr (σ := Unit) (fun _ => True) (fun _ => [(4, .d (.b z1))]) (fun _ => []) ?_ ?_
  · skip
    refine .region ?_; refine vk (vlda gA_Arr gS_Arr) ?_; refine vk (vcl0 (array_Right_ok hx1) Tryz.call13) ?_
    by_cases hc : x1 = true
    · replace hz := ite_t hc hz
      have hb0 : x1 = true := hc
      refine vk (VOK.lit (vmvd) hb0) ?_; refine vk (vlda gA_Arr gS_Arr) ?_
      obtain ⟨x3, hx3, hz⟩ := bnd hz
      refine vk (vcl0 (array_Right_ok hx3) Tryz.call13) ?_; refine vk (vpkd) ?_
      by_cases hc : x3 = true
      · replace hz := ite_t hc hz
        have hb1 : x3 = true := hc
        refine vk (VOK.lit (vmvd) hb1) ?_; refine vk (vlda gA_Arr gS_Arr) ?_; refine vk (vlda gA_Arr gS_Arr) ?_
        obtain ⟨x4, hx4, hz⟩ := bnd hz
        refine vk (vcl0 (ar_equal_ok hx4) Tryz.call37) ?_; refine vk (vpkd) ?_; refine asd ?_; refine RL.gh (Gh.keep [4] rfl) ?_; refine .nil ?_
        cases hz
        exact jr () trivial
      replace hz := ite_f hc hz
      have hb1 : x3 = false := (bf hc)
      refine vk (VOK.lit (vmvd) hb1) ?_; refine gf ?_; refine gf ?_; refine gf ?_; refine vk (vpkd) ?_; refine asd ?_; refine RL.gh (Gh.keep [4] rfl) ?_; refine .nil ?_
      cases hz
      exact jr () trivial
    replace hz := ite_f hc hz
    have hb0 : x1 = false := (bf hc)
    refine vk (VOK.lit (vmvd) hb0) ?_; refine gf ?_; refine gf ?_; refine vk (vpkd) ?_; refine vk (vmvd) ?_; refine gf ?_; refine gf ?_; refine gf ?_; refine vk (vpkd) ?_; refine asd ?_; refine RL.gh (Gh.keep [4] rfl) ?_; refine .nil ?_
    cases hz
    exact jr () trivial
  rintro _ _
  refine .ret ?_
  cases h
  exact ⟨rfl, rfl⟩

def slices_IndexFunc_api_Item_api_Item_l1 (a0 : (List Itm)) (a1 : FT_Itm__bool) (K0 : Int → Option (Int)) : Nat → Int → Int → Option (Int)
  | 0, _, _ => none
  | k + 1, s2, s3 => (if s3 < ((List.length a0 : Nat) : Int) then ((rd? a0 s3).bind fun x4 => ((a1.g x4).bind fun x5 => (if x5 = true then (some (s3)) else (slices_IndexFunc_api_Item_api_Item_l1 a0 a1 K0 k s2 (w64 (s3 + 1)))))) else (K0 s2))
def slices_IndexFunc_api_Item_api_Item (a0 : (List Itm)) (a1 : FT_Itm__bool) : Option (Int) := (jn (fun (z1 : Int) => (some ((-1)))) fun K0 => (slices_IndexFunc_api_Item_api_Item_l1 a0 a1 K0 FUEL 0 0))
theorem slices_IndexFunc_api_Item_api_Item_ok {a0 : (List Itm)} {a1 : FT_Itm__bool} (oa1 : FO_Itm__bool a1) {r : Int} (h : slices_IndexFunc_api_Item_api_Item a0 a1 = some r) :
    Fn Tryz.prog 227 [.sl (Its a0), a1.dv] (.d (.i .i64 r)) := by
  unfold slices_IndexFunc_api_Item_api_Item at h
  refine Fn.of (rs := [.tmp 4]) (nt := 19) Tryz.func227 rfl rfl rfl (by simp) rfl ?_; refine .seq ?_; refine .region ?_; refine asd ?_; refine rn ?_; refine .gh (Gh.keep [0, 1, 4] rfl) ?_; refine .seq ?_; refine .seq ?_; refine .region ?_; refine vk (vmvd) ?_; refine vk (vlnE (Its_length _) (Its_sz _) gu_Its) ?_; refine vk (vmvd) ?_; refine rn ?_; refine .gh (Gh.keep [0, 1, 4, 7, 8] rfl) ?_
  obtain ⟨K0, hK0, h⟩ := jn_out h
  refine AW.mr (σ := Int) (fun p => K0 p = some r) (fun p => [(4, .d (.i .i64 p))]) (fun p => []) ?_ ?_
  · skip
    refine .block ?_
    refine .loop (.gh (Gh.keep [0, 1, 4, 7, 8] rfl) ?_)
    refine AL.ind (σ := Nat × Int × Int) (m := fun p => p.1) (e := fun p => [(0, .d (.sl (Its a0))), (1, .d (a1.dv)), (4, .d (.i .i64 p.2.1)), (7, .d (.i .i64 ((List.length a0 : Nat) : Int))), (8, .d (.i .i64 p.2.2))]) (h := fun p => []) (I := fun p => slices_IndexFunc_api_Item_api_Item_l1 a0 a1 K0 p.1 p.2.1 p.2.2 = some r) ?_ (FUEL, 0, 0) h
    rintro ⟨k, s2, s3⟩ h ih
    dsimp only at h ih ⊢
    rcases k with _ | k
    · rw [slices_IndexFunc_api_Item_api_Item_l1] at h; cases h
    rw [slices_IndexFunc_api_Item_api_Item_l1] at h
    refine .seq ?_; refine .region ?_; refine vk (vbi) ?_; refine rn ?_; refine .gh (Gh.keep [0, 1, 4, 7, 8, 9] rfl) ?_; refine .seq ?_
    by_cases hc : s3 < ((List.length a0 : Nat) : Int)
    · replace h := ite_t hc h
      refine cnt (decide_eq_true hc) ?_; refine .skip ?_
      show AW _ _ _ _ _ _
      refine .seq ?_; refine .block ?_; refine .seq ?_; refine .region ?_; refine vk (vmvd) ?_; refine asd ?_; refine rn ?_; refine .gh (Gh.keep [0, 1, 4, 5, 7, 8] rfl) ?_; refine .seq ?_; refine .region ?_; refine vk (vmvd) ?_; refine vk (vmvd) ?_; refine vk (vmvd) ?_
      obtain ⟨x4, hx4, h⟩ := bnd h
      obtain ⟨nx4, hnx4, hxx4⟩ := rd_some hx4
      refine vk (vix nx4 hnx4 (Its_at hxx4) rfl gs_Its) ?_; refine vk (vlda gA_Itm gS_Itm) ?_
      obtain ⟨x5, hx5, h⟩ := bnd h
      refine vk (vclv (oa1 _ _ hx5)) ?_; refine rn ?_; refine .gh (Gh.keep [0, 1, 4, 5, 7, 8, 16] rfl) ?_
      by_cases hc : x5 = true
      · replace h := ite_t hc h
        refine cnt hc ?_; refine .seq ?_; refine .region ?_; refine vk (vmvd) ?_; refine asd ?_; refine rn ?_; refine .gh (Gh.keep [0, 1, 4, 7, 8] rfl) ?_; refine .ret ?_
        cases h
        exact ⟨rfl, rfl⟩
      replace h := ite_f hc h
      refine cnf (bf hc) ?_; refine .skip ?_
      show AW _ _ _ _ _ _
      refine .region ?_; refine vk (vbi) ?_; refine vk (vmvd) ?_; refine .nil ?_; refine AL.gh (Gh.keep [0, 1, 4, 7, 8] rfl) ?_
      exact ih (k, s2, (w64 (s3 + 1))) h (Nat.lt_succ_self _)
    replace h := ite_f hc h
    refine cnf (decide_eq_false hc) ?_; refine .gh (Gh.keep [4] rfl) ?_; refine .exit ?_
    exact jr (s2) h
  rintro z1 h
  try dsimp only at h ⊢
  subst hK0
  show AW _ _ _ _ _ _
  refine .seq ?_; refine .region ?_; refine asd ?_; refine rn ?_; refine .gh (Gh.keep [4] rfl) ?_; refine .ret ?_
  cases h
  exact ⟨rfl, rfl⟩

def slices_ContainsFunc_api_Item_api_Item (a0 : (List Itm)) (a1 : FT_Itm__bool) : Option (Bool) := ((slices_IndexFunc_api_Item_api_Item a0 a1).bind fun x1 => (some ((decide (0 ≤ x1)))))
theorem slices_ContainsFunc_api_Item_api_Item_ok {a0 : (List Itm)} {a1 : FT_Itm__bool} (oa1 : FO_Itm__bool a1) {r : Bool} (h : slices_ContainsFunc_api_Item_api_Item a0 a1 = some r) :
    Fn Tryz.prog 179 [.sl (Its a0), a1.dv] (.d (.b r)) := by
  unfold slices_ContainsFunc_api_Item_api_Item at h
  refine Fn.of (rs := [.tmp 4]) (nt := 9) Tryz.func179 rfl rfl rfl (by simp) rfl ?_; refine .seq ?_; refine .region ?_; refine asd ?_; refine rn ?_; refine .gh (Gh.keep [0, 1, 4] rfl) ?_; refine .seq ?_; refine .region ?_; refine vk (vmvd) ?_; refine vk (vmvd) ?_
  obtain ⟨x1, hx1, h⟩ := bnd h
  refine vk (vcl0 (slices_IndexFunc_api_Item_api_Item_ok oa1 hx1) Tryz.call227) ?_; refine vk (vbi) ?_; refine asd ?_; refine rn ?_; refine .gh (Gh.keep [4] rfl) ?_; refine .ret ?_
  cases h
  exact ⟨rfl, rfl⟩

def array_Make_1 (a0 : Itm) : Option (Bool) := ((arRightItem a0).bind fun x1 => (some ((!x1))))
theorem array_Make_1_ok {a0 : Itm} {r : Bool} (h : array_Make_1 a0 = some r) :
    Fn Tryz.prog 180 [.ag [.i .u8 a0.kind, .b a0.num.1, .sl (L a0.num.2.1), .sl (L a0.num.2.2), .i .i32 a0.char, .sl (Ars a0.box)]] (.d (.b r)) := by
  unfold array_Make_1 at h
  refine Fn.of (rs := [.tmp 2]) (nt := 6) Tryz.func180 rfl rfl rfl (by simp) rfl ?_; refine .seq ?_; refine .region ?_; refine vk (vbx) ?_; refine asd ?_; refine rn ?_; refine .gh (Gh.keep [1, 2] rfl) ?_; refine .seq ?_; refine .region ?_; refine vk (vlda gA_Itm gS_Itm) ?_
  obtain ⟨x1, hx1, h⟩ := bnd h
  refine vk (vcl0 (arRightItem_ok hx1) Tryz.call181) ?_; refine vk (vnt) ?_; refine asd ?_; refine rn ?_; refine .gh (Gh.keep [2] rfl) ?_; refine .ret ?_
  cases h
  exact ⟨rfl, rfl⟩

def array_Make_l5 (x12 : Itm) (K4 : Int → Option (Arr × Int)) : Nat → Int → Int → Option (Arr × Int)
  | 0, _, _ => none
  | k + 1, s14, s15 => (if s15 < ((List.length x12.box : Nat) : Int) then ((rd? x12.box s15).bind fun x16 => ((array_Cells x16).bind fun x17 => (array_Make_l5 x12 K4 k (w64 (s14 + x17)) (w64 (s15 + 1))))) else (K4 s14))
def array_Make_l2 (a1 : (List Itm)) (K1 : (List Int) → Option (Arr × Int)) : Nat → (List Int) → Int → Option (Arr × Int)
  | 0, _, _ => none
  | k + 1, s9, s10 => (if s10 < ((List.length a1 : Nat) : Int) then (jn (fun (z11 : (List Int)) => (array_Make_l2 a1 K1 k z11 (w64 (s10 + 1)))) fun K3 => ((rd? a1 s10).bind fun x12 => (jn (fun (z13 : Int) => ((ap? 17592186044416 s9 [z13]).bind fun x18 => (K3 x18))) fun K4 => (array_Make_l5 x12 K4 FUEL 1 0)))) else (K1 s9))
def array_Make_l7 (a1 : (List Itm)) (x1 : Int × Int) (z8 : (List Int)) (K6 : Arr → Int → (List Int) → (List Itm) → Option (Arr × Int)) : Nat → Arr → Int → Int → Int → (List Int) → (List Itm) → Option (Arr × Int)
  | 0, _, _, _, _, _, _ => none
  | k + 1, s23, s24, s25, s26, s27, s28 => (if s25 < x1.1 then ((grd? (((List.length a1 : Nat) : Int) ≠ 0)).bind fun x29 => ((rd? z8 (Int.tmod s25 ((List.length a1 : Nat) : Int))).bind fun x30 => (if 16384 < (w64 (s26 + x30)) then (some ((Arr.mk [] []), 8)) else ((grd? (((List.length a1 : Nat) : Int) ≠ 0)).bind fun x31 => ((rd? a1 (Int.tmod s25 ((List.length a1 : Nat) : Int))).bind fun x32 => ((ar_same x32).bind fun x33 => ((ap? 1466015503701 s28 [x33]).bind fun x34 => (array_Make_l7 a1 x1 z8 K6 k s23 s24 (w64 (s25 + 1)) (w64 (s26 + x30)) s27 x34)))))))) else (K6 s23 s24 s27 s28))
def array_Make (a0 : (List Int)) (a1 : (List Itm)) : Option (Arr × Int) := ((array_Size a0).bind fun x1 => (if x1.2 = 0 then (Option.bind ((if ((List.length a1 : Nat) : Int) = 0 then (some true) else ((slices_ContainsFunc_api_Item_api_Item a1 (⟨.fn 180 [] [], fun x => array_Make_1 x⟩ : FT_Itm__bool)).bind fun x3 => (some x3))) : Option (Bool)) fun (z2 : Bool) => (if z2 = true then (some ((Arr.mk [] []), 22)) else ((sClone_int a0).bind fun x4 => (jn (fun (z5 : (List Itm)) => (jn (fun (z8 : (List Int)) => (jn (fun (z19 : Arr) (z20 : Int) (z21 : (List Int)) (z22 : (List Itm)) => ((array_Right (Arr.mk z21 z22)).bind fun x35 => (if x35 = true then (some ((Arr.mk z21 z22), 0)) else (some ((Arr.mk [] []), 8))))) fun K6 => (array_Make_l7 a1 x1 z8 K6 FUEL (Arr.mk [] []) 0 0 0 x4 z5))) fun K1 => (array_Make_l2 a1 K1 FUEL [] 0))) fun K0 => (if x1.1 = 0 then ((rd? a1 0).bind fun x6 => ((ar_typed x6).bind fun x7 => (K0 ([x7])))) else (K0 [])))))) else (some ((Arr.mk [] []), x1.2))))
set_option maxHeartbeats 4000000 in
theorem array_Make_ok {a0 : (List Int)} {a1 : (List Itm)} {r : Arr × Int} (h : array_Make a0 a1 = some r) :
    Fn Tryz.prog 99 [.sl (Is a0), .sl (Its a1)] (.tup [.d (.ag [.sl (Is r.1.shape), .sl (Its r.1.items)]), .d (.i .i64 r.2)]) := by
  unfold array_Make at h
  refine Fn.ofC (rs := [.cell 4 25, .tmp 5]) (nt := 105) Tryz.func99 rfl rfl rfl (by simp) rfl ?_; refine .seq ?_; refine .region ?_; refine vk (van (zero_of gI_Arr) gZ_Arr) ?_; refine asd ?_; refine rn ?_; refine .gh (Gh.keep [0, 1, 4, 5] rfl) ?_; refine .seq ?_; refine .region ?_; refine vk (vmvd) ?_
  obtain ⟨x1, hx1, h⟩ := bnd h
  refine vk (VOK.tupd (vs := [.i .i64 x1.1, .i .i64 x1.2]) (vcl0 (array_Size_ok hx1) Tryz.call98)) ?_; refine vk (vmvd) ?_; refine vk (vex) ?_; refine vk (vex) ?_; refine asd ?_; refine asd ?_; refine rn ?_; refine .gh (Gh.keep [0, 1, 4, 5, 6, 7] rfl) ?_; refine .seq ?_; refine .block ?_; refine .seq ?_; refine .region ?_; refine vk (vmvd) ?_; refine vk (vbi) ?_; refine asd ?_; refine rn ?_; refine .gh (Gh.keep [0, 1, 4, 5, 6, 7, 22] rfl) ?_
  by_cases hc : x1.2 = 0
  · replace h := ite_t hc h
    refine cnf (ntf (decide_eq_true hc)) ?_; refine .seq ?_
    obtain ⟨z2, hz, h⟩ := bnd h
    refine AW.mr (σ := Unit) (fun _ => True) (fun _ => [(0, .d (.sl (Is a0))), (1, .d (.sl (Its a1))), (4, .nb [.sl (Is []), .sl (Its [])]), (5, .d (.i .i64 0)), (6, .d (.i .i64 x1.1)), (27, .d (.b z2))]) (fun _ => []) ?_ ?_
    · skip
      refine .region ?_; refine vk (vmvd) ?_; refine vk (vlnE (Its_length _) (Its_sz _) gu_Its) ?_; refine vk (vbi) ?_
      by_cases hc : ((List.length a1 : Nat) : Int) = 0
      · replace hz := ite_t hc hz
        have hb0 : (decide (((List.length a1 : Nat) : Int) = 0)) = true := (decide_eq_true hc)
        refine vk (VOK.lit (vmvd) hb0) ?_; refine gf ?_; refine gf ?_; refine vk (vpkd) ?_; refine asd ?_; refine RL.gh (Gh.keep [0, 1, 4, 5, 6, 27] rfl) ?_; refine .nil ?_
        cases hz
        exact jr () trivial
      replace hz := ite_f hc hz
      have hb0 : (decide (((List.length a1 : Nat) : Int) = 0)) = false := (decide_eq_false hc)
      refine vk (VOK.lit (vmvd) hb0) ?_; refine vk (vmvd) ?_
      obtain ⟨x3, hx3, hz⟩ := bnd hz
      refine vk (vcl0 (slices_ContainsFunc_api_Item_api_Item_ok (FWOK Tryz.call180 (fun _ _ h => array_Make_1_ok h)) hx3) Tryz.call179) ?_; refine vk (vpkd) ?_; refine asd ?_; refine RL.gh (Gh.keep [0, 1, 4, 5, 6, 27] rfl) ?_; refine .nil ?_
      cases hz
      exact jr () trivial
    rintro _ _
    by_cases hc : z2 = true
    · replace h := ite_t hc h
      refine cnt hc ?_; refine .seq ?_; refine .region ?_; refine vk (vbd gP_Arr gI_Arr gZ_Arr) ?_
      refine stn ?_ gS_Arr (by decide)
      refine asd ?_; refine rn ?_; refine .gh (Gh.keep [0, 1, 4, 5, 6] rfl) ?_; refine .ret ?_
      cases h
      exact ⟨_, _, ⟨.inr rfl, gA_Arr, gS_Arr, (by decide : (0 : Nat) < 2)⟩, rfl, rfl⟩
    replace h := ite_f hc h
    refine cnf (bf hc) ?_; refine .skip ?_
    show AW _ _ _ _ _ _
    refine .seq ?_; refine .region ?_; refine vk (vmvd) ?_
    obtain ⟨x4, hx4, h⟩ := bnd h
    refine vk ((vcl0 (sClone_int_ok hx4) Tryz.call182).deep) ?_; refine vk (vbdA gP_Arr gI_Arr (fun w I μ => gZA_Arr w I μ)) ?_; refine vk (van (zero_of gI_Arr) gZ_Arr) ?_
    refine stnA ?_ gS_Arr (by decide)
    refine rn ?_; refine .gh (Gh.keep [1, 4, 5, 6, 8] rfl) ?_; refine .seq ?_; refine .seq ?_; refine .region ?_; refine vk (vmvd) ?_; refine vk (vbi) ?_; refine rn ?_; refine .gh (Gh.keep [1, 4, 5, 6, 8, 40] rfl) ?_
    obtain ⟨K0, hK0, h⟩ := jn_out h
    refine AW.mr (σ := (List Itm)) (fun p => K0 p = some r) (fun p => [(1, .d (.sl (Its a1))), (4, .nb [.sl (Is []), .sl (Its [])]), (5, .d (.i .i64 0)), (6, .d (.i .i64 x1.1)), (8, .bp 0 0)]) (fun p => [HO.box [.d (.sl (Is x4)), .own 83 (Its p)]]) ?_ ?_
    · skip
      by_cases hc : x1.1 = 0
      · replace h := ite_t hc h
        refine cnt (decide_eq_true hc) ?_; refine .region ?_; refine vk (vmvd) ?_
        obtain ⟨x6, hx6, h⟩ := bnd h
        obtain ⟨nx6, hnx6, hxx6⟩ := rd_some hx6
        refine vk (vix nx6 hnx6 (Its_at hxx6) rfl gs_Its) ?_; refine vk (vlda gA_Itm gS_Itm) ?_
        obtain ⟨x7, hx7, h⟩ := bnd h
        refine vk (vcl0 (ar_typed_ok hx7) Tryz.call183) ?_; refine vk (vbslE (Its_bs1 x7) (Its_flat [x7]) ge_Its) ?_; refine vk (vfab gF_Arr_1) ?_
        refine stbo (cs := [.d (.sl (Is x4)), .nl]) (c := .nl) rfl rfl ?_ gz_Its
        refine RL.gh (Gh.keep [1, 4, 5, 6, 8] rfl) ?_; refine .nil ?_
        exact jr ([x7]) h
      replace h := ite_f hc h
      refine cnf (decide_eq_false hc) ?_; refine .gh (Gh.nlOwnC (id := 0) (off := 1) 83 (by rw [gz_Itm]; decide)) ?_; refine .gh (Gh.keep [1, 4, 5, 6, 8] rfl) ?_; refine .skip ?_
      exact jr ([]) h
    rintro z5 h
    try dsimp only at h ⊢
    subst hK0
    show AW _ _ _ _ _ _
    refine .seq ?_; refine .region ?_; refine asn ?_; refine rn ?_; refine .gh (Gh.keep [1, 4, 5, 6, 8, 9] rfl) ?_; refine .seq ?_; refine .seq ?_; refine .region ?_; refine vk (vmvd) ?_; refine vk (vlnE (Its_length _) (Its_sz _) gu_Its) ?_; refine vk (vmvd) ?_; refine rn ?_; refine .gh (Gh.keep [1, 4, 5, 6, 8, 9, 47, 48, 49] rfl) ?_
    obtain ⟨K1, hK1, h⟩ := jn_out h
    refine AW.mr (σ := (List Int)) (fun p => K1 p = some r) (fun p => [(1, .d (.sl (Its a1))), (4, .nb [.sl (Is []), .sl (Its [])]), (5, .d (.i .i64 0)), (6, .d (.i .i64 x1.1)), (8, .bp 0 0), (9, .own 3 (Is p))]) (fun p => [HO.box [.d (.sl (Is x4)), .own 83 (Its z5)]]) ?_ ?_
    · skip
      refine .block ?_; refine .gh (Gh.nlOwn (t := 9) 3 (by rw [gz_int]; decide) rfl) ?_
      refine .loop (.gh (Gh.keep [1, 4, 5, 6, 8, 9, 47, 48, 49] rfl) ?_)
      refine AL.ind (σ := Nat × (List Int) × Int) (m := fun p => p.1) (e := fun p => [(1, .d (.sl (Its a1))), (4, .nb [.sl (Is []), .sl (Its [])]), (5, .d (.i .i64 0)), (6, .d (.i .i64 x1.1)), (8, .bp 0 0), (9, .own 3 (Is p.2.1)), (47, .d (.sl (Its a1))), (48, .d (.i .i64 ((List.length a1 : Nat) : Int))), (49, .d (.i .i64 p.2.2))]) (h := fun p => [HO.box [.d (.sl (Is x4)), .own 83 (Its z5)]]) (I := fun p => array_Make_l2 a1 K1 p.1 p.2.1 p.2.2 = some r) ?_ (FUEL, [], 0) h
      rintro ⟨k, s9, s10⟩ h ih
      dsimp only at h ih ⊢
      rcases k with _ | k
      · rw [array_Make_l2] at h; cases h
      rw [array_Make_l2] at h
      refine .seq ?_; refine .region ?_; refine vk (vbi) ?_; refine rn ?_; refine .gh (Gh.keep [1, 4, 5, 6, 8, 9, 47, 48, 49, 50] rfl) ?_; refine .seq ?_
      by_cases hc : s10 < ((List.length a1 : Nat) : Int)
      · replace h := ite_t hc h
        refine cnt (decide_eq_true hc) ?_; refine .skip ?_
        show AW _ _ _ _ _ _
        obtain ⟨K3, hK3, h⟩ := jn_out h
        refine AW.mj (σ := (List Int)) (fun p => K3 p = some r) (fun p => [(1, .d (.sl (Its a1))), (4, .nb [.sl (Is []), .sl (Its [])]), (5, .d (.i .i64 0)), (6, .d (.i .i64 x1.1)), (8, .bp 0 0), (9, .own 3 (Is p)), (47, .d (.sl (Its a1))), (48, .d (.i .i64 ((List.length a1 : Nat) : Int))), (49, .d (.i .i64 s10))]) (fun p => [HO.box [.d (.sl (Is x4)), .own 83 (Its z5)]]) ?_ ?_
        · skip
          refine .block ?_; refine .seq ?_; refine .region ?_
          obtain ⟨x12, hx12, h⟩ := bnd h
          obtain ⟨nx12, hnx12, hxx12⟩ := rd_some hx12
          refine vk (vix nx12 hnx12 (Its_at hxx12) rfl gs_Its) ?_; refine vk (vlda gA_Itm gS_Itm) ?_; refine vk (van (zero_of gI_Itm) gZ_Itm) ?_
          refine stn ?_ gS_Itm (by decide)
          refine rn ?_; refine .gh (Gh.keep [1, 4, 5, 6, 8, 9, 11, 47, 48, 49] rfl) ?_; refine .seq ?_; refine .region ?_; refine asd ?_; refine rn ?_; refine .gh (Gh.keep [1, 4, 5, 6, 8, 9, 11, 12, 47, 48, 49] rfl) ?_; refine .seq ?_; refine .seq ?_; refine .gh (Gh.nbp (t := 11) rfl) ?_; refine .region ?_; refine vk (vfa gF_Itm_3) ?_; refine vk (vldp ga_Ars) ?_; refine vk (vlnE (Ars_length _) (Ars_sz _) gu_Ars) ?_; refine vk (vmvd) ?_; refine rn ?_; refine .gh (Gh.keep [1, 4, 5, 6, 8, 9, 12, 47, 48, 49, 54, 55, 56] rfl) ?_
          obtain ⟨K4, hK4, h⟩ := jn_out h
          refine AW.mr (σ := Int) (fun p => K4 p = some r) (fun p => [(1, .d (.sl (Its a1))), (4, .nb [.sl (Is []), .sl (Its [])]), (5, .d (.i .i64 0)), (6, .d (.i .i64 x1.1)), (8, .bp 0 0), (9, .own 3 (Is s9)), (12, .d (.i .i64 p)), (47, .d (.sl (Its a1))), (48, .d (.i .i64 ((List.length a1 : Nat) : Int))), (49, .d (.i .i64 s10))]) (fun p => [HO.box [.d (.sl (Is x4)), .own 83 (Its z5)]]) ?_ ?_
          · skip
            refine .block ?_
            refine .loop (.gh (Gh.keep [1, 4, 5, 6, 8, 9, 12, 47, 48, 49, 54, 55, 56] rfl) ?_)
            refine AL.ind (σ := Nat × Int × Int) (m := fun p => p.1) (e := fun p => [(1, .d (.sl (Its a1))), (4, .nb [.sl (Is []), .sl (Its [])]), (5, .d (.i .i64 0)), (6, .d (.i .i64 x1.1)), (8, .bp 0 0), (9, .own 3 (Is s9)), (12, .d (.i .i64 p.2.1)), (47, .d (.sl (Its a1))), (48, .d (.i .i64 ((List.length a1 : Nat) : Int))), (49, .d (.i .i64 s10)), (54, .d (.sl (Ars x12.box))), (55, .d (.i .i64 ((List.length x12.box : Nat) : Int))), (56, .d (.i .i64 p.2.2))]) (h := fun p => [HO.box [.d (.sl (Is x4)), .own 83 (Its z5)]]) (I := fun p => array_Make_l5 x12 K4 p.1 p.2.1 p.2.2 = some r) ?_ (FUEL, 1, 0) h
            rintro ⟨k, s14, s15⟩ h ih
            dsimp only at h ih ⊢
            rcases k with _ | k
            · rw [array_Make_l5] at h; cases h
            rw [array_Make_l5] at h
            refine .seq ?_; refine .region ?_; refine vk (vbi) ?_; refine rn ?_; refine .gh (Gh.keep [1, 4, 5, 6, 8, 9, 12, 47, 48, 49, 54, 55, 56, 57] rfl) ?_; refine .seq ?_
            by_cases hc : s15 < ((List.length x12.box : Nat) : Int)
            · replace h := ite_t hc h
              refine cnt (decide_eq_true hc) ?_; refine .skip ?_
              show AW _ _ _ _ _ _
              refine .seq ?_; refine .block ?_; refine .seq ?_; refine .region ?_
              obtain ⟨x16, hx16, h⟩ := bnd h
              obtain ⟨nx16, hnx16, hxx16⟩ := rd_some hx16
              refine vk (vix nx16 hnx16 (Ars_at hxx16) rfl gs_Ars) ?_; refine vk (vlda gA_Arr gS_Arr) ?_; refine vk (van (zero_of gI_Arr) gZ_Arr) ?_
              refine stn ?_ gS_Arr (by decide)
              refine rn ?_; refine .gh (Gh.keep [1, 4, 5, 6, 8, 9, 12, 14, 47, 48, 49, 54, 55, 56] rfl) ?_; refine .region ?_; refine vk (vmvd) ?_; refine vk (vldn gA_Arr gS_Arr) ?_
              obtain ⟨x17, hx17, h⟩ := bnd h
              refine vk (vcl0 (array_Cells_ok hx17) Tryz.call184) ?_; refine vk (vbi) ?_; refine asd ?_; refine .nil ?_
              show AW _ _ _ _ _ _
              refine .gh (Gh.keep [1, 4, 5, 6, 8, 9, 12, 47, 48, 49, 54, 55, 56] rfl) ?_; refine .region ?_; refine vk (vbi) ?_; refine vk (vmvd) ?_; refine .nil ?_; refine AL.gh (Gh.keep [1, 4, 5, 6, 8, 9, 12, 47, 48, 49, 54, 55, 56] rfl) ?_
              exact ih (k, (w64 (s14 + x17)), (w64 (s15 + 1))) h (Nat.lt_succ_self _)
            replace h := ite_f hc h
            refine cnf (decide_eq_false hc) ?_; refine .gh (Gh.keep [1, 4, 5, 6, 8, 9, 12, 47, 48, 49] rfl) ?_; refine .exit ?_
            exact jr (s14) h
          rintro z13 h
          try dsimp only at h ⊢
          subst hK4
          show AW _ _ _ _ _ _
          refine .region ?_; refine mvo ?_; refine vk (vmvd) ?_; refine vk ((vbsl (Is_flat [z13]) ge_Is).deep) ?_
          obtain ⟨x18, hx18, h⟩ := bnd h
          refine apr' Is_app hx18 gB_Is ?_ Is_sz1 Is_length ge_Is
          refine aso ?_; refine RL.gh (Gh.keep [1, 4, 5, 6, 8, 9, 47, 48, 49] rfl) ?_; refine .nil ?_
          exact jr (x18) h
        rintro z11 h
        try dsimp only at h ⊢
        subst hK3
        refine .region ?_; refine vk (vbi) ?_; refine vk (vmvd) ?_; refine .nil ?_; refine AL.gh (Gh.keep [1, 4, 5, 6, 8, 9, 47, 48, 49] rfl) ?_
        exact ih (k, z11, (w64 (s10 + 1))) h (Nat.lt_succ_self _)
      replace h := ite_f hc h
      refine cnf (decide_eq_false hc) ?_; refine .gh (Gh.keep [1, 4, 5, 6, 8, 9] rfl) ?_; refine .exit ?_
      exact jr (s9) h
    rintro z8 h
    try dsimp only at h ⊢
    subst hK1
    show AW _ _ _ _ _ _
    refine .seq ?_; refine .seq ?_; refine .region ?_; refine asd ?_; refine asd ?_; refine rn ?_; refine .gh (Gh.keep [1, 4, 5, 6, 8, 9, 15, 16] rfl) ?_
    obtain ⟨K6, hK6, h⟩ := jn_out h
    refine AW.mr (σ := Arr × Int × (List Int) × (List Itm)) (fun p => K6 p.1 p.2.1 p.2.2.1 p.2.2.2 = some r) (fun p => [(4, .nb [.sl (Is p.1.shape), .sl (Its p.1.items)]), (5, .d (.i .i64 p.2.1)), (8, .bp 0 0)]) (fun p => [HO.box [.d (.sl (Is p.2.2.1)), .own 83 (Its p.2.2.2)]]) ?_ ?_
    · skip
      refine .block ?_; refine .gh (Gh.frz (p := .t 9) rfl (by (intro _ _ h; cases h <;> decide))) ?_
      refine .loop (.gh (Gh.keep [1, 4, 5, 6, 8, 9, 15, 16] rfl) ?_)
      refine AL.ind (σ := Nat × Arr × Int × Int × Int × (List Int) × (List Itm)) (m := fun p => p.1) (e := fun p => [(1, .d (.sl (Its a1))), (4, .nb [.sl (Is p.2.1.shape), .sl (Its p.2.1.items)]), (5, .d (.i .i64 p.2.2.1)), (6, .d (.i .i64 x1.1)), (8, .bp 0 0), (9, .d (.sl (Is z8))), (15, .d (.i .i64 p.2.2.2.1)), (16, .d (.i .i64 p.2.2.2.2.1))]) (h := fun p => [HO.box [.d (.sl (Is p.2.2.2.2.2.1)), .own 83 (Its p.2.2.2.2.2.2)]]) (I := fun p => array_Make_l7 a1 x1 z8 K6 p.1 p.2.1 p.2.2.1 p.2.2.2.1 p.2.2.2.2.1 p.2.2.2.2.2.1 p.2.2.2.2.2.2 = some r) ?_ (FUEL, (Arr.mk [] []), 0, 0, 0, x4, z5) h
      rintro ⟨k, s23, s24, s25, s26, s27, s28⟩ h ih
      dsimp only at h ih ⊢
      rcases k with _ | k
      · rw [array_Make_l7] at h; cases h
      rw [array_Make_l7] at h
      refine .seq ?_; refine .seq ?_; refine .region ?_; refine vk (vmvd) ?_; refine vk (vmvd) ?_; refine vk (vbi) ?_; refine rn ?_; refine .gh (Gh.keep [1, 4, 5, 6, 8, 9, 15, 16, 72] rfl) ?_
      by_cases hc : s25 < x1.1
      · replace h := ite_t hc h
        refine cnt (decide_eq_true hc) ?_; refine .skip ?_
        show AW _ _ _ _ _ _
        refine .seq ?_; refine .block ?_; refine .seq ?_; refine .seq ?_; refine .region ?_; refine vk (vmvd) ?_; refine vk (vmvd) ?_; refine vk (vmvd) ?_; refine vk (vmvd) ?_; refine vk (vlnE (Its_length _) (Its_sz _) gu_Its) ?_
        obtain ⟨x29, hx29, h⟩ := bnd h
        refine vk (vbic (grd_ok hx29)) ?_
        obtain ⟨x30, hx30, h⟩ := bnd h
        obtain ⟨nx30, hnx30, hxx30⟩ := rd_some hx30
        refine vk (vix nx30 hnx30 (Is_at hxx30) rfl gs_Is) ?_; refine vk (vldp ga_int) ?_; refine vk (vbi) ?_; refine asd ?_; refine rn ?_; refine .gh (Gh.keep [1, 4, 5, 6, 8, 9, 15, 16] rfl) ?_; refine .seq ?_; refine .region ?_; refine vk (vmvd) ?_; refine vk (vbi) ?_; refine rn ?_; refine .gh (Gh.keep [1, 4, 5, 6, 8, 9, 15, 16, 85] rfl) ?_
        by_cases hc : 16384 < (w64 (s26 + x30))
        · replace h := ite_t hc h
          refine cnt (decide_eq_true hc) ?_; refine .seq ?_; refine .region ?_; refine vk (vbd gP_Arr gI_Arr gZ_Arr) ?_
          refine stn ?_ gS_Arr (by decide)
          refine asd ?_; refine rn ?_; refine .gh (Gh.keep [1, 4, 5, 6, 8, 9, 15, 16] rfl) ?_; refine .ret ?_
          cases h
          exact ⟨_, _, ⟨.inr rfl, gA_Arr, gS_Arr, (by decide : (0 : Nat) < 2)⟩, rfl, rfl⟩
        replace h := ite_f hc h
        refine cnf (decide_eq_false hc) ?_; refine .skip ?_
        show AW _ _ _ _ _ _
        refine .drawn 11 mixed (by kernel_rfl) ?_; refine dv (vfab gF_Arr_1) ?_; refine dv (vldbo (cs := [.d (.sl (Is s27)), .own 83 (Its s28)]) rfl rfl ga_Its) ?_; refine dv (vmvd) ?_; refine dv (vmvd) ?_; refine dv (vmvd) ?_; refine dv (vlnE (Its_length _) (Its_sz _) gu_Its) ?_
        obtain ⟨x31, hx31, h⟩ := bnd h
        refine dv (vbic (grd_ok hx31)) ?_
        obtain ⟨x32, hx32, h⟩ := bnd h
        obtain ⟨nx32, hnx32, hxx32⟩ := rd_some hx32
        refine dv (vix nx32 hnx32 (Its_at hxx32) rfl gs_Its) ?_; refine dv (vlda gA_Itm gS_Itm) ?_
        obtain ⟨x33, hx33, h⟩ := bnd h
        refine dv (vcl0 (ar_same_ok hx33) Tryz.call173) ?_; refine dv ((vbslE (Its_bs1 x33) (Its_flat [x33]) ge_Its).deep) ?_; refine dz ?_
        obtain ⟨x34, hx34, h⟩ := bnd h
        refine apc' Its_app hx34 rfl rfl gB_Its ?_ Its_sz1 Its_length ge_Its
        refine RL.gh (Gh.keep [1, 4, 5, 6, 8, 9, 15, 16, 85, 87, 89, 90, 91, 92, 93, 94, 95, 96, 97, 98] rfl) ?_; refine vk (vfab gF_Arr_1) ?_
        refine stbo (cs := [.d (.sl (Is s27)), .un]) (c := .un) rfl rfl ?_ gz_Its
        refine .nil ?_
        show AW _ _ _ _ _ _
        refine .gh (Gh.keep [1, 4, 5, 6, 8, 9, 15, 16] rfl) ?_; refine .region ?_; refine vk (vmvd) ?_; refine vk (vbi) ?_; refine asd ?_; refine .nil ?_; refine AL.gh (Gh.keep [1, 4, 5, 6, 8, 9, 15, 16] rfl) ?_
        exact ih (k, s23, s24, (w64 (s25 + 1)), (w64 (s26 + x30)), s27, x34) h (Nat.lt_succ_self _)
      replace h := ite_f hc h
      refine cnf (decide_eq_false hc) ?_; refine .gh (Gh.keep [4, 5, 8] rfl) ?_; refine .exit ?_
      exact jr (s23, s24, s27, s28) h
    rintro ⟨z19, z20, z21, z22⟩ h
    try dsimp only at h ⊢
    subst hK6
    show AW _ _ _ _ _ _
    refine .seq ?_; refine .seq ?_; refine .region ?_; refine fz (p := .c 0 1) ?_; refine vk (vldba (cs := [.d (.sl (Is z21)), .d (.sl (Its z22))]) (ds := [.sl (Is z21), .sl (Its z22)]) rfl gA_Arr gS_Arr) ?_
    obtain ⟨x35, hx35, h⟩ := bnd h
    refine vk (vcl0 (array_Right_ok hx35) Tryz.call13) ?_; refine vk (vnt) ?_; refine rn ?_; refine .gh (Gh.keep [4, 5, 8, 102] rfl) ?_
    by_cases hc : x35 = true
    · replace h := ite_t hc h
      refine cnf (ntf hc) ?_; refine .skip ?_
      show AW _ _ _ _ _ _
      refine .seq ?_; refine .region ?_; refine vk (vldba (cs := [.d (.sl (Is z21)), .d (.sl (Its z22))]) (ds := [.sl (Is z21), .sl (Its z22)]) rfl gA_Arr gS_Arr) ?_
      refine stn ?_ gS_Arr (by decide)
      refine asd ?_; refine rn ?_; refine .gh (Gh.keep [4, 5] rfl) ?_; refine .ret ?_
      cases h
      exact ⟨_, _, ⟨.inr rfl, gA_Arr, gS_Arr, (by decide : (0 : Nat) < 2)⟩, rfl, rfl⟩
    replace h := ite_f hc h
    refine cnt (ntt (bf hc)) ?_; refine .seq ?_; refine .region ?_; refine vk (vbd gP_Arr gI_Arr gZ_Arr) ?_
    refine stn ?_ gS_Arr (by decide)
    refine asd ?_; refine rn ?_; refine .gh (Gh.keep [4, 5, 8] rfl) ?_; refine .ret ?_
    cases h
    exact ⟨_, _, ⟨.inr rfl, gA_Arr, gS_Arr, (by decide : (0 : Nat) < 2)⟩, rfl, rfl⟩
  replace h := ite_f hc h
  refine cnt (ntt (decide_eq_false hc)) ?_; refine .seq ?_; refine .region ?_; refine vk (vbd gP_Arr gI_Arr gZ_Arr) ?_; refine vk (vmvd) ?_
  refine stn ?_ gS_Arr (by decide)
  refine asd ?_; refine rn ?_; refine .gh (Gh.keep [0, 1, 4, 5, 6] rfl) ?_; refine .ret ?_
  cases h
  exact ⟨_, _, ⟨.inr rfl, gA_Arr, gS_Arr, (by decide : (0 : Nat) < 2)⟩, rfl, rfl⟩

def array_Enclose (a0 : Arr) : Option (Itm) := ((array_Right a0).bind fun x1 => (if x1 = true then ((array_isSimple a0).bind fun x2 => (if x2 = true then ((rd? a0.items 0).bind fun x3 => ((ar_same x3).bind fun x4 => (some (x4)))) else ((array_copied a0 (⟨.fn 173 [] [], fun x => ar_same x⟩ : FT_Itm__Itm)).bind fun x5 => (some ((Itm.mk 3 (false, [], []) 0 [x5])))))) else (some ((Itm.mk 0 (false, [], []) 0 [])))))
theorem array_Enclose_ok {a0 : Arr} {r : Itm} (h : array_Enclose a0 = some r) :
    Fn Tryz.prog 95 [.ag [.sl (Is a0.shape), .sl (Its a0.items)]] (.d (.ag [.i .u8 r.kind, .b r.num.1, .sl (L r.num.2.1), .sl (L r.num.2.2), .i .i32 r.char, .sl (Ars r.box)])) := by
  unfold array_Enclose at h
  refine Fn.ofC (rs := [.cell 2 83]) (nt := 20) Tryz.func95 rfl rfl rfl (by simp) rfl ?_; refine .seq ?_; refine .region ?_; refine vk (vbx) ?_; refine vk (van (zero_of gI_Itm) gZ_Itm) ?_; refine rn ?_; refine .gh (Gh.keep [1, 2] rfl) ?_; refine .seq ?_; refine .block ?_; refine .seq ?_; refine .region ?_; refine vk (vlda gA_Arr gS_Arr) ?_
  obtain ⟨x1, hx1, h⟩ := bnd h
  refine vk (vcl0 (array_Right_ok hx1) Tryz.call13) ?_; refine vk (vnt) ?_; refine asd ?_; refine rn ?_; refine .gh (Gh.keep [1, 2, 3] rfl) ?_
  by_cases hc : x1 = true
  · replace h := ite_t hc h
    refine cnf (ntf hc) ?_; refine .seq ?_; refine .region ?_; refine vk (vlda gA_Arr gS_Arr) ?_
    obtain ⟨x2, hx2, h⟩ := bnd h
    refine vk (vcl0 (array_isSimple_ok hx2) Tryz.call172) ?_; refine asd ?_; refine rn ?_; refine .gh (Gh.keep [1, 2, 8] rfl) ?_
    by_cases hc : x2 = true
    · replace h := ite_t hc h
      refine cnt hc ?_; refine .seq ?_; refine .region ?_; refine vk (vfa gF_Arr_1) ?_; refine vk (vldp ga_Its) ?_
      obtain ⟨x3, hx3, h⟩ := bnd h
      obtain ⟨nx3, hnx3, hxx3⟩ := rd_some hx3
      refine vk (vix nx3 hnx3 (Its_at hxx3) rfl gs_Its) ?_; refine vk (vlda gA_Itm gS_Itm) ?_
      obtain ⟨x4, hx4, h⟩ := bnd h
      refine vk (vcl0 (ar_same_ok hx4) Tryz.call173) ?_
      refine stn ?_ gS_Itm (by decide)
      refine rn ?_; refine .gh (Gh.keep [1, 2] rfl) ?_; refine .ret ?_
      cases h
      exact ⟨_, ⟨.inr rfl, gA_Itm, gS_Itm, (by decide : (0 : Nat) < 6)⟩, rfl⟩
    replace h := ite_f hc h
    refine cnf (bf hc) ?_; refine .skip ?_
    show AW _ _ _ _ _ _
    refine .seq ?_; refine .region ?_; refine vk (vlda gA_Arr gS_Arr) ?_
    obtain ⟨x5, hx5, h⟩ := bnd h
    refine vk (vcl0 (array_copied_ok (FWOK Tryz.call173 (fun _ _ h => ar_same_ok h)) hx5) Tryz.call174) ?_; refine vk ((vbslE (Ars_bs1 x5) (Ars_flat [x5]) ge_Ars).deep) ?_; refine vk (vbd gP_Itm gI_Itm gZ_Itm) ?_
    refine stn ?_ gS_Itm (by decide)
    refine rn ?_; refine .gh (Gh.keep [2] rfl) ?_; refine .ret ?_
    cases h
    exact ⟨_, ⟨.inr rfl, gA_Itm, gS_Itm, (by decide : (0 : Nat) < 6)⟩, rfl⟩
  replace h := ite_f hc h
  refine cnt (ntt (bf hc)) ?_; refine .seq ?_; refine .region ?_; refine vk (vbd gP_Itm gI_Itm gZ_Itm) ?_
  refine stn ?_ gS_Itm (by decide)
  refine rn ?_; refine .gh (Gh.keep [1, 2] rfl) ?_; refine .ret ?_
  cases h
  exact ⟨_, ⟨.inr rfl, gA_Itm, gS_Itm, (by decide : (0 : Nat) < 6)⟩, rfl⟩

def array_Open (a0 : Itm) : Option (Arr) := ((arRightItem a0).bind fun x1 => (if x1 = true then (if a0.kind = 3 then ((rd? a0.box 0).bind fun x2 => ((array_copied x2 (⟨.fn 173 [] [], fun x => ar_same x⟩ : FT_Itm__Itm)).bind fun x3 => (some (x3)))) else ((ar_same a0).bind fun x4 => ((array_scalar x4).bind fun x5 => (some (x5))))) else (some ((Arr.mk [] [])))))
theorem array_Open_ok {a0 : Itm} {r : Arr} (h : array_Open a0 = some r) :
    Fn Tryz.prog 194 [.ag [.i .u8 a0.kind, .b a0.num.1, .sl (L a0.num.2.1), .sl (L a0.num.2.2), .i .i32 a0.char, .sl (Ars a0.box)]] (.d (.ag [.sl (Is r.shape), .sl (Its r.items)])) := by
  unfold array_Open at h
  refine Fn.ofC (rs := [.cell 2 25]) (nt := 20) Tryz.func194 rfl rfl rfl (by simp) rfl ?_; refine .seq ?_; refine .region ?_; refine vk (vbx) ?_; refine vk (van (zero_of gI_Arr) gZ_Arr) ?_; refine rn ?_; refine .gh (Gh.keep [1, 2] rfl) ?_; refine .seq ?_; refine .block ?_; refine .seq ?_; refine .region ?_; refine vk (vlda gA_Itm gS_Itm) ?_
  obtain ⟨x1, hx1, h⟩ := bnd h
  refine vk (vcl0 (arRightItem_ok hx1) Tryz.call181) ?_; refine vk (vnt) ?_; refine asd ?_; refine rn ?_; refine .gh (Gh.keep [1, 2, 3] rfl) ?_
  by_cases hc : x1 = true
  · replace h := ite_t hc h
    refine cnf (ntf hc) ?_; refine .seq ?_; refine .region ?_; refine vk (vfa gF_Itm_0) ?_; refine vk (vldp ga_ItemKind) ?_; refine vk (vbi) ?_; refine asd ?_; refine rn ?_; refine .gh (Gh.keep [1, 2, 8] rfl) ?_
    by_cases hc : a0.kind = 3
    · replace h := ite_t hc h
      refine cnt (decide_eq_true hc) ?_; refine .seq ?_; refine .region ?_; refine vk (vfa gF_Itm_3) ?_; refine vk (vldp ga_Ars) ?_
      obtain ⟨x2, hx2, h⟩ := bnd h
      obtain ⟨nx2, hnx2, hxx2⟩ := rd_some hx2
      refine vk (vix nx2 hnx2 (Ars_at hxx2) rfl gs_Ars) ?_; refine vk (vlda gA_Arr gS_Arr) ?_
      obtain ⟨x3, hx3, h⟩ := bnd h
      refine vk (vcl0 (array_copied_ok (FWOK Tryz.call173 (fun _ _ h => ar_same_ok h)) hx3) Tryz.call174) ?_
      refine stn ?_ gS_Arr (by decide)
      refine rn ?_; refine .gh (Gh.keep [1, 2] rfl) ?_; refine .ret ?_
      cases h
      exact ⟨_, ⟨.inr rfl, gA_Arr, gS_Arr, (by decide : (0 : Nat) < 2)⟩, rfl⟩
    replace h := ite_f hc h
    refine cnf (decide_eq_false hc) ?_; refine .skip ?_
    show AW _ _ _ _ _ _
    refine .seq ?_; refine .region ?_; refine vk (vlda gA_Itm gS_Itm) ?_
    obtain ⟨x4, hx4, h⟩ := bnd h
    refine vk (vcl0 (ar_same_ok hx4) Tryz.call173) ?_
    obtain ⟨x5, hx5, h⟩ := bnd h
    refine vk (vcl0 (array_scalar_ok hx5) Tryz.call70) ?_
    refine stn ?_ gS_Arr (by decide)
    refine rn ?_; refine .gh (Gh.keep [2] rfl) ?_; refine .ret ?_
    cases h
    exact ⟨_, ⟨.inr rfl, gA_Arr, gS_Arr, (by decide : (0 : Nat) < 2)⟩, rfl⟩
  replace h := ite_f hc h
  refine cnt (ntt (bf hc)) ?_; refine .seq ?_; refine .region ?_; refine vk (vbd gP_Arr gI_Arr gZ_Arr) ?_
  refine stn ?_ gS_Arr (by decide)
  refine rn ?_; refine .gh (Gh.keep [1, 2] rfl) ?_; refine .ret ?_
  cases h
  exact ⟨_, ⟨.inr rfl, gA_Arr, gS_Arr, (by decide : (0 : Nat) < 2)⟩, rfl⟩

end Go.FL
/-
  Plain laws of arrays, 2: what is right, how deep, how great.
-/
namespace Go.FL
open Go Go.Proofs

def chB (c : Int) : Bool := decide (0 ≤ c) && (decide (c ≤ 1114111) && (decide (c < 55296) || decide (57343 < c)))
def simpleB (a : Arr) : Bool := a.shape.isEmpty && match a.items with
  | [x] => decide (x.kind ≠ 3)
  | _ => false
mutual
def rI : Itm → Bool
  | .mk k n c b => if k = 1 then (rightR n && (decide (c = 0) && decide (b.length = 0))) else if k = 2 then (chB c && (noNumB (.mk k n c b) && decide (b.length = 0))) else if k = 3 then (decide (b.length = 1) && (noNumB (.mk k n c b) && (decide (c = 0) && rBs b))) else false
def rA : Arr → Bool
  | .mk s i => decide ((szP s).2 = 0) && (decide ((i.length : Int) = if (szP s).1 < 1 then 1 else (szP s).1) && rIs i)
def rIs : List Itm → Bool
  | [] => true
  | x :: xs => rI x && rIs xs
def rBs : List Arr → Bool
  | [] => true
  | a :: r => (!simpleB a && rA a) && rBs r
end
mutual
def cI : Itm → Nat
  | .mk _ _ _ b => cBs b
def cA : Arr → Nat
  | .mk _ i => i.length + cIs i
def cIs : List Itm → Nat
  | [] => 0
  | x :: xs => cI x + cIs xs
def cBs : List Arr → Nat
  | [] => 0
  | a :: r => cA a + cBs r
end
mutual
def dI : Itm → Nat
  | .mk _ _ _ b => dBs b
def dA : Arr → Nat
  | .mk s i => if simpleB (.mk s i) then 0 else 1 + dIs i
def dIs : List Itm → Nat
  | [] => 0
  | x :: xs => max (dI x) (dIs xs)
def dBs : List Arr → Nat
  | [] => 0
  | a :: r => max (dA a) (dBs r)
end
def up (d deep n : Nat) : Nat := if n = 0 then d else max d (deep + n)
def RightA (a : Arr) : Prop := rA a = true ∧ dA a ≤ 16 ∧ cA a ≤ 16384
def RightI (x : Itm) : Prop := rI x = true ∧ dI x ≤ 16 ∧ cI x ≤ 16384
instance (a : Arr) : Decidable (RightA a) := by unfold RightA; infer_instance
instance (x : Itm) : Decidable (RightI x) := by unfold RightI; infer_instance
end Go.FL
/-
  Plain laws, rat 3: sizes, negatives, rounding, signs, comparisons, sums of many.
-/
namespace Go.FL
open Go Go.Proofs

theorem digs_pos_iff {n : Nat} : (0 : Int) < ((List.length (digs n) : Nat) : Int) ↔ n ≠ 0 := by
  constructor
  · rintro h rfl; rw [digs_zero] at h; simp at h
  · intro h
    have : digs n ≠ [] := fun h2 => h (digs_nil_iff.1 h2)
    have := List.length_pos_iff.2 this
    omega
theorem num_nil {p : Rat} : (ofQ p).2.1 = [] ↔ p = 0 := by
  rw [← num_zero, ← List.length_eq_zero_iff]; omega
def cmpR (p q : Rat) : Int := if p < q then -1 else if p = q then 0 else 1
theorem num_neg {p : Rat} : p.num < 0 ↔ p < 0 := by
  rw [Rat.lt_iff]; simp
theorem sign_q {p : Rat} (hp : fits p) : rat_Sign (ofQ p) = some (cmpR p 0) := by
  unfold rat_Sign
  rw [ratRight_eq (ofQ_okRB hp), ofQ_right hp, Option.bind_some]
  unfold cmpR
  by_cases h : p = 0
  · subst h
    rw [if_pos (by simp [num_nil]), if_neg Rat.lt_irrefl, if_pos rfl]
  · rw [if_neg (by simp [num_nil, h])]
    show (if decide (p.num < 0) = true then some (-1) else some 1) = _
    by_cases h2 : p < 0
    · rw [if_pos h2, if_pos (decide_eq_true (num_neg.2 h2))]
    · rw [if_neg h2, if_neg (by simpa using fun h3 => h2 (num_neg.1 h3)), if_neg h]
end Go.FL
/-
  Plain laws, rat 4: comparisons; sums and products of many.
-/
namespace Go.FL
open Go Go.Proofs

theorem cross_q {x y : Q3} (hx : sm 4000 x) (hy : sm 4000 y) : ratCross (qN x).1 (qN y).1 = some (digs (x.2.1 * y.2.2)) := by
  have : ratCross (qN x).1 (qN y).1 = some (digs (val (digs x.2.1) * val (digs y.2.2))) := if_pos (by
    rw [Bool.and_eq_true]; exact ⟨okL_digs hx.1, okL_digs hy.2⟩)
  rw [this, val_digs, val_digs]
theorem nCompare_eq {m n : Nat} (hm : (digs m).length ≤ 1048576) (hn : (digs n).length ≤ 1048576) : nCompare (digs m) (digs n) = some (cmpN m n) := by
  have : nCompare (digs m) (digs n) = some (cmpN (val (digs m)) (val (digs n))) := if_pos (by
    rw [Bool.and_eq_true]; exact ⟨okL_digs (by omega), okL_digs (by omega)⟩)
  rw [this, val_digs, val_digs]
theorem cross_sm {x y : Q3} {k : Nat} (hx : sm k x) (hy : sm k y) : (digs (x.2.1 * y.2.2)).length ≤ 2 * k := by
  have l1 := mul_len (digs_ok x.2.1) (digs_ok y.2.2) hx.1 hy.2
  rwa [val_digs, val_digs] at l1
theorem cmpR_num {p q : Rat} : cmpR p q = if p.num * q.den < q.num * p.den then -1 else if p.num * q.den = q.num * p.den then 0 else 1 := by
  unfold cmpR
  simp only [Rat.lt_iff, Rat.eq_iff_mul_eq_mul]
theorem cmp_zero {p : Rat} : cmpR p 0 = if p.num < 0 then -1 else if p.num = 0 then 0 else 1 := by
  rw [cmpR_num]; simp
theorem cmp_sizes {p q : Rat} (h : cmpR p 0 = cmpR q 0) : cmpR p 0 * cmpN (p.num.natAbs * q.den) (q.num.natAbs * p.den) = cmpR p q := by
  rw [cmp_zero, cmp_zero] at h
  rw [cmp_zero, cmpR_num]
  have hp : (0 : Int) < p.den := by have := p.den_nz; omega
  have hq : (0 : Int) < q.den := by have := q.den_nz; omega
  unfold cmpN
  by_cases h1 : p.num < 0
  · rw [if_pos h1] at h ⊢
    have h2 : q.num < 0 := by
      by_cases h2 : q.num < 0
      · exact h2
      · rw [if_neg h2] at h; split at h <;> cases h
    have e1 : ((p.num.natAbs * q.den : Nat) : Int) = -(p.num * q.den) := by rw [Int.natCast_mul, show ((p.num.natAbs : Nat) : Int) = -p.num by omega, Int.neg_mul]
    have e2 : ((q.num.natAbs * p.den : Nat) : Int) = -(q.num * p.den) := by rw [Int.natCast_mul, show ((q.num.natAbs : Nat) : Int) = -q.num by omega, Int.neg_mul]
    generalize p.num.natAbs * q.den = a at *
    generalize q.num.natAbs * p.den = b at *
    generalize p.num * q.den = c at *
    generalize q.num * p.den = d at *
    split <;> split <;> (try split) <;> (try split) <;> omega
  · rw [if_neg h1] at h ⊢
    by_cases h0 : p.num = 0
    · rw [if_pos h0] at h ⊢
      have h2 : q.num = 0 := by
        by_cases h2 : q.num < 0
        · rw [if_pos h2] at h; cases h
        · rw [if_neg h2] at h
          by_cases h3 : q.num = 0
          · exact h3
          · rw [if_neg h3] at h; cases h
      rw [h0, h2]; simp
    · rw [if_neg h0] at h ⊢
      have h2 : 0 < q.num := by
        by_cases h2 : q.num < 0
        · rw [if_pos h2] at h; cases h
        · rw [if_neg h2] at h
          by_cases h3 : q.num = 0
          · rw [if_pos h3] at h; cases h
          · omega
      have e1 : ((p.num.natAbs * q.den : Nat) : Int) = p.num * q.den := by rw [Int.natCast_mul, show ((p.num.natAbs : Nat) : Int) = p.num by omega]
      have e2 : ((q.num.natAbs * p.den : Nat) : Int) = q.num * p.den := by rw [Int.natCast_mul, show ((q.num.natAbs : Nat) : Int) = q.num by omega]
      generalize p.num.natAbs * q.den = a at *
      generalize q.num.natAbs * p.den = b at *
      generalize p.num * q.den = c at *
      generalize q.num * p.den = d at *
      split <;> split <;> (try split) <;> (try split) <;> omega
theorem cmpR_vals (p q : Rat) : cmpR p q = -1 ∨ cmpR p q = 0 ∨ cmpR p q = 1 := by
  unfold cmpR; split
  · exact .inl rfl
  · split
    · exact .inr (.inl rfl)
    · exact .inr (.inr rfl)
theorem cmp_signs {p q : Rat} (h : ¬ cmpR p 0 = cmpR q 0) : cmpR p q = if cmpR p 0 < cmpR q 0 then -1 else 1 := by
  rw [cmp_zero, cmp_zero] at h
  rw [cmp_zero, cmp_zero, cmpR_num]
  have hp0 : (0 : Int) < p.den := by have := p.den_nz; omega
  have hq0 : (0 : Int) < q.den := by have := q.den_nz; omega
  have m1 : p.num < 0 → p.num * q.den < 0 := fun h => Int.mul_neg_of_neg_of_pos h hq0
  have m2 : 0 < p.num → 0 < p.num * q.den := fun h => Int.mul_pos h hq0
  have m3 : p.num = 0 → p.num * q.den = 0 := fun h => by rw [h, Int.zero_mul]
  have k1 : q.num < 0 → q.num * p.den < 0 := fun h => Int.mul_neg_of_neg_of_pos h hp0
  have k2 : 0 < q.num → 0 < q.num * p.den := fun h => Int.mul_pos h hp0
  have k3 : q.num = 0 → q.num * p.den = 0 := fun h => by rw [h, Int.zero_mul]
  generalize p.num * q.den = c at *
  generalize q.num * p.den = d at *
  by_cases a1 : p.num < 0
  · rw [if_pos a1] at h ⊢
    by_cases a3 : q.num < 0
    · rw [if_pos a3] at h; exact absurd rfl h
    · rw [if_neg a3] at h ⊢
      have : (if q.num = 0 then (0 : Int) else 1) > -1 := by split <;> decide
      rw [if_pos this, if_pos]
      omega
  · rw [if_neg a1] at h ⊢
    by_cases a2 : p.num = 0
    · rw [if_pos a2] at h ⊢
      by_cases a3 : q.num < 0
      · rw [if_pos a3, if_neg (show ¬ c < d by omega), if_neg (show ¬ c = d by omega), if_neg (by decide)]
      · rw [if_neg a3] at h ⊢
        by_cases a4 : q.num = 0
        · rw [if_pos a4] at h; exact absurd rfl h
        · rw [if_neg a4, if_pos (show c < d by omega), if_pos (by decide)]
    · rw [if_neg a2] at h ⊢
      by_cases a3 : q.num < 0
      · rw [if_pos a3, if_neg (show ¬ c < d by omega), if_neg (show ¬ c = d by omega), if_neg (by decide)]
      · rw [if_neg a3] at h ⊢
        by_cases a4 : q.num = 0
        · rw [if_pos a4, if_neg (show ¬ c < d by omega), if_neg (show ¬ c = d by omega), if_neg (by decide)]
        · rw [if_neg a4] at h; exact absurd rfl h
theorem compare_q {p q : Rat} (hp : fits p) (hq : fits q) : rat_Compare (ofQ p) (ofQ q) = some (cmpR p q) := by
  unfold rat_Compare
  refine bind_eq (ratAll2 (ofQ_okRB hp) (ofQ_okRB hq)) ?_
  rw [two_right hp hq, if_pos rfl]
  refine bind_eq (sign_q hp) (bind_eq (sign_q hq) ?_)
  have s1 := sm_mono (sm_q hp) (show 32 ≤ 4000 by decide)
  have s2 := sm_mono (sm_q hq) (show 32 ≤ 4000 by decide)
  by_cases h : cmpR p 0 = cmpR q 0
  · rw [if_neg (by simp [h]), if_pos h]
    refine bind_eq (ratOf_q p) (bind_eq (ratOf_q q) (bind_eq (cross_q s1 s2) (bind_eq (ratOf_q q) (bind_eq (ratOf_q p) (bind_eq (cross_q s2 s1) (bind_eq (nCompare_eq ?_ ?_) ?_))))))
    · exact Nat.le_trans (cross_sm (sm_q hp) (sm_q hq)) (by decide)
    · exact Nat.le_trans (cross_sm (sm_q hq) (sm_q hp)) (by decide)
    · rw [cmp_sizes h, w64_eq] <;> rcases cmpR_vals p q with h | h | h <;> rw [h] <;> decide
  · rw [if_neg h, cmp_signs h]
    by_cases h2 : cmpR p 0 < cmpR q 0
    · rw [if_pos (by simp [h, h2]), if_pos h2]
    · rw [if_neg (by simp [h2]), if_neg h2]
end Go.FL
/-
  Plain laws, rat 5: the reference's numbers.
-/
namespace Go.FL
open Go Go.Proofs

theorem right2_eq {a b : RT} (ha : okRB a = true) (hb : okRB b = true) {β : Type} (f : Bool → Option β) : ((ref2Right a).bind fun x1 => Option.bind (if x1 = true then ((ref2Right b).bind fun x3 => some (!x3)) else some true) f) = f (!(rightR a && rightR b)) := by
  rw [ref2Right_eq ha, Option.bind_some]
  cases h : rightR a with
  | false => rfl
  | true => rw [if_pos rfl, ref2Right_eq hb]; rfl
end Go.FL
/-
  A FUNCTIONAL LOGIC, 45: a struct of two cells, of which one is a slice of the call's own.
-/
namespace Go.FL
open Go Go.RowKit

section
variable {P : Program} {C : Cx} {X : Snap} {o : Oper} {ops : Array Oper} {Q : Exit → Env → Heap → Prop} {env env' : Env} {H H' : Heap} {a : Act} {w w' : World} {I I' : Nat → Prop} {μ μ' : List Nat} {O O' : Nat → Option Loc}
  {K : Env → Heap → Prop} {k : Nat} {l : List Oper}

theorem setRow2 {blk : Nat} {u0 u1 v0 v1 : Value} {e : TypeId} (h : w.heap[blk]? = some (.cells #[u0, u1] e (0, 0))) : w.setRow blk #[v0, v1] = (w.setCell ⟨blk, 0, none⟩ v0).setCell ⟨blk, 1, none⟩ v1 := by
  obtain ⟨hlt, hv⟩ := Array.getElem?_eq_some_iff.1 h
  have e1 : w.heap.modify blk (fun | .cells _ elem frozen => .cells #[v0, v1] elem frozen | o => o) = (w.heap.modify blk (fun | .cells c elem frozen => .cells (c.setIfInBounds 0 v0) elem frozen | o => o)).modify blk (fun | .cells c elem frozen => .cells (c.setIfInBounds 1 v1) elem frozen | o => o) := by
    apply Array.ext
    · simp
    · intro i h1 h2
      simp only [Array.getElem_modify]
      by_cases hi : blk = i
      · subst hi; simp only [if_true, hv]; simp
      · simp only [if_neg hi]
  unfold World.setRow World.setCell
  simp only [Option.isSome_none, Bool.false_eq_true, if_false]
  exact congrArg (fun x => ({ w with heap := x } : World)) e1

theorem bdo {ty s t e : Nat} {parts : Array (Nat × Operand)} {places : List (Nat × Nat)} {z : Value} {xs : List DV} (hp : structT P ty = some places) (hz : (P.info? ty).bind (·.zero) = some z) (hzr : z = .agg #[.slice none 0 0, .slice none 0 0]) (h : RL P C ops Q (k + 1) l ((t, .ag [.own e xs, .nl]) :: (s, .un) :: env) H)
    (hpl : places = [(0, 1), (1, 1)] := by rfl) (hg : grd ops env o true = true := by rfl) (ho : o.op = .build ty parts := by rfl) (hpa : parts = #[(0, .tmp s)] := by rfl) (hv : get env s = .own e xs := by rfl) (hd : o.dst = some t := by rfl)
    (hf : isOwn (get env t) = false := by rfl) (hr : refsTo s env = false := by rfl) (ht : okT C.nt t := by rfl) : RL P C ops Q k (o :: l) env H := by
  have hst := ne_of_own hv hf
  subst hpl hzr
  refine .go hg (.val (t := t) (av := .ag [.own e xs, .nl]) (env' := put env s .un) (H' := H) (by simp [ho]) hd ht (fun X a w I μ O _ _ _ hs => ?_) ?_)
  · obtain ⟨k1, bs, k2, k3, k4⟩ := hs.take s (by rw [hv]; rfl)
    rw [hv] at k2
    have hb : P.built ty [(0, a.tmps.getD s undef)] = some #[a.tmps.getD s undef, .slice none 0 0] := by
      unfold structT at hp
      unfold Program.built
      cases hi : P.info? ty with
      | none => rw [hi] at hz; cases hz
      | some it =>
        rw [hi] at hz
        simp only [Option.bind_some] at hz
        split at hp
        · rename_i fields hu
          simp only [hu, hz, hp]
          have hone : ∃ A n c, a.tmps.getD s undef = .slice A n c := by
            generalize a.tmps.getD s undef = u at k2
            cases k2 with
            | own _ _ _ vs hsz ho' hr' =>
              rcases ho' with ⟨A, h1, _⟩ | ⟨_, g, cap, h1, _⟩ <;> exact ⟨_, _, _, h1⟩
          obtain ⟨A, n, c, hu3⟩ := hone
          rw [hu3]
          simp [Instr.fill, Value.cells]
        · cases hp
    refine ⟨.agg #[a.tmps.getD s undef, .slice none 0 0], w, I, μ, _, ?_, k1, bs, ?_, k3, k4⟩
    · simp only [execOp, ho, hpa, Sem.run_bind]
      have := run_build (P := P) w ty #[(0, a.tmps.getD s undef)] #[a.tmps.getD s undef, .slice none 0 0] (by simpa using hb)
      simp only [List.map_toArray, List.map_cons, List.map_nil, Act.eval]
      rw [this]
      simp only [Result.andThen_ok, Sem.run_pure]
    · have := ARep.ag (ARepAll.cons k2 (ARepAll.cons (.nl (P := P) (w := w) (I := I) (μ := μ)) .nil))
      simpa using this
  · refine RL.gh (Gh.same fun q => ?_) h
    have h1 : isOwn (get (put env s .un) t) = false := by rw [put_noRefs hr]; simp [get, hst, hf]
    rw [put_cons h1]
    simp only [get]
    split
    · rfl
    · rw [put_noRefs hr]; rfl
theorem st2 {x : Operand} {r ty id : Nat} {c0 c1 a0 a1 : AV} (hH : H[id]? = some (.box [c0, c1])) (h : RL P C ops Q (k + 1) l ((r, .un) :: env) (H.set id (.box [a0, a1]))) (hsz : szOf P ty = 2) (hg : grd ops env o true = true := by rfl)
    (ho : o.op = .store ty x (.tmp r) := by rfl) (hv : lk env x = .bp id 0 := by rfl) (hy : get env r = .ag [a0, a1] := by rfl) (n0 : isOwn c0 = false := by rfl) (n1 : isOwn c1 = false := by rfl) (m0 : one a0 = true := by rfl) (m1 : one a1 = true := by rfl) (hd : o.dst = none := by rfl) (h0 : C.n0 = 0 := by rfl) : RL P C ops Q k (o :: l) env H := by
  obtain ⟨h1, h2⟩ := lk_copy hv (by simp)
  have hlt : id < H.length := (List.getElem?_eq_some_iff.1 hH).1
  refine .go hg (.done (env' := put env r .un) (H' := H.set id (.box [a0, a1])) (by simp [ho]) hd (fun X a w I μ O _ g2 _ hs => ?_) ?_)
  · obtain ⟨blk, hm, he⟩ := hs.bp h1 h2
    obtain ⟨k1, bs, k2, k3, k4⟩ := hs.take r (by rw [hy]; rfl)
    rw [hy] at k2
    generalize hev : a.tmps.getD r undef = u at k2
    cases k2 with
    | @ag _ vs _ k2 =>
      cases k2 with
      | @cons _ v0 _ _ b0 b1' q0 k2 =>
        cases k2 with
        | @cons _ v1 _ _ b1 b2 q1 k2 =>
          cases k2
          rw [List.append_nil] at k3 k4
          obtain ⟨d0, d1, d2⟩ := List.nodup_append.1 k3
          obtain ⟨s1, ⟨y1, w1⟩, f1⟩ := k1.storeC (off := 0) hH rfl hm (by omega) q0 d0 fun b hb => k4 b (by simp [hb])
          rw [n0] at s1
          have e1 : setC H id 0 a0 = H.set id (.box [a0, c1]) := by simp [setC, hH]
          rw [e1] at s1
          have hH1 : (H.set id (.box [a0, c1]))[id]? = some (.box [a0, c1]) := List.getElem?_set_self hlt
          have q1' : ARep P (w.setCell ⟨blk, 0, none⟩ v0) I μ a1 v1 b1 := by
            obtain ⟨blk', bs', g1, ⟨cells, et, g3, g4⟩, g5, _⟩ := k1.heap id _ hH
            rw [hm] at g1; cases g1
            have hOb := (g5 (by omega)).2 blk (by simp)
            refine q1.keep (fun _ h => h) (fun b hi => heap_setCell_other w _ b v0 fun e => ?_) (fun _ _ h => h) fun b hb => heap_setCell_other w _ b v0 fun e => ?_
            · have e' : b = blk := e
              subst e'; exact (k1.own _ _ hOb).2 hi
            · have e' : b = blk := e
              subst e'
              have h7 : (O b).map (toR r) = some .r := k4 b (by simp [hb])
              have h8 : (O b).map (toR r) = some (.o id) := hOb
              rw [h7] at h8; cases h8
          obtain ⟨s2, ⟨y2, w2⟩, f2⟩ := s1.storeC (off := 1) hH1 rfl hm (by omega) q1' d1 fun b hb => by
            show (if b ∈ b0 then _ else _) = _
            rw [if_neg fun hm => d2 b hm b hb rfl]; exact k4 b (by simp [hb])
          rw [n1] at s2
          have e2 : setC (H.set id (.box [a0, c1])) id 1 a1 = H.set id (.box [a0, a1]) := by simp [setC, hH1]
          rw [e2] at s2
          refine ⟨_, I, μ, _, ?_, s2⟩
          obtain ⟨blk', bs', g1, ⟨cells, et, g3, g4⟩, g5, _⟩ := k1.heap id _ hH
          rw [hm] at g1; cases g1
          have hcl : cells.toList.length = 2 := g4.length.symm
          obtain ⟨u0, u1, hcc⟩ : ∃ u0 u1, cells = #[u0, u1] := by
            obtain ⟨l⟩ := cells
            match l, hcl with
            | [x, y], _ => exact ⟨x, y, rfl⟩
          rw [hcc] at g3
          have hone0 := one_scalar q0 m0
          have hone1 := one_scalar q1 m1
          obtain ⟨i, i1, i2⟩ := szOf_info (P := P) (t := ty) (by omega)
          have hsi : (P.info? ty).map (·.size) = some (#[v0, v1] : Array Value).size := by rw [i1]; simp; omega
          have hrun := run_storeVar_row (P := P) w blk et ty #[u0, u1] #[v0, v1] g3 hsi rfl (by simp [hone0, hone1])
          have hevr : a.eval (.tmp r) = .agg #[v0, v1] := by show a.tmps.getD r undef = _; rw [hev]
          simp only [execOp, ho, he, hevr, Instr.storeAt, Instr.sureAddr, Sem.run_bind, Sem.run_pure, Result.andThen_ok, hrun]
          rw [setRow2 g3]
  · refine RL.gh (Gh.same fun q => ?_) h
    rw [put_cons (by rw [hy]; rfl)]
section
variable {nt : Nat × Nat} {J : JT} {ags : List Value} {QJ : Exit → Env → Heap → Nat → Prop} {n : Nat}
end
end
end Go.FL
/-
  array.all, ToInts.
-/
namespace Go.FL
open Go Go.Proofs

section
variable {S : Type}
end
end Go.FL
/-
  array.vector, Ints, Text.
-/
namespace Go.FL
open Go Go.Proofs

def dvIt (x : Itm) : DV := .ag [.i .u8 x.kind, .b x.num.1, .sl (L x.num.2.1), .sl (L x.num.2.2), .i .i32 x.char, .sl (Ars x.box)]
def intItems : List Int → Option (List Itm)
  | [] => some []
  | n :: ns => (ratOfInt n).bind fun q => (array_number q).bind fun x => (intItems ns).bind fun xs => some (x :: xs)
theorem intItems_at : ∀ {l : List Int} {xs : List Itm}, intItems l = some xs → xs.length = l.length ∧ ∀ (i : Nat) n, l[i]? = some n → ∃ q x, ratOfInt n = some q ∧ array_number q = some x ∧ xs[i]? = some x := by
  intro l
  induction l with
  | nil => intro xs h; cases h; exact ⟨rfl, fun i n hn => by simp at hn⟩
  | cons m ns ih =>
    intro xs h
    rw [intItems] at h
    obtain ⟨q, hq, h⟩ := bnd h
    obtain ⟨x, hx, h⟩ := bnd h
    obtain ⟨ys, hy, h⟩ := bnd h
    cases h
    obtain ⟨h1, h2⟩ := ih hy
    refine ⟨by simp [h1], fun i n hn => ?_⟩
    cases i with
    | zero => simp at hn; subst hn; exact ⟨q, x, hq, hx, rfl⟩
    | succ i => simpa using h2 i n (by simpa using hn)
def itY (xs : List Itm) : List (List DV) := xs.map fun x => [dvIt x]
theorem itY_at {xs : List Itm} {i : Nat} {x : Itm} (h : xs[i]? = some x) : (itY xs)[i]? = some [dvIt x] := by simp [itY, h]

set_option maxRecDepth 10000 in
theorem Ints1_it {l : List Int} {xs : List Itm} (h : intItems l = some xs) (hl : l.length ≤ 9223372036854775806) (m : Nat) : ItG Tryz.prog 77 [.ptr [.sl (Is l)]] (itY xs) m := by
  obtain ⟨hlen, hat⟩ := intItems_at h
  have hyl : (itY xs).length = l.length := by simp [itY, hlen]
  refine ItG.of Tryz.func77 rfl rfl (nt := 18) rfl (by simp) fun lp J hJ hR => ?_; refine .seq ?_; refine .lift ?_; refine .region ?_; refine vk (vldp ga_Is) ?_; refine vk (vlnE (Is_length _) (Is_sz _) gu_Is) ?_; refine vk (vmvd) ?_; refine .nil ?_
  show AWJ _ _ _ _ _ _ _ _ _
  refine .block ?_; refine ALJ.loop ?_; refine ALJ.gh (Gh.keep [0, 5, 6, 7] rfl) ?_
  refine ALJ.ind (σ := Nat) (m := fun i => l.length - i) (e := fun i => [(0, .d (.yl lp)), (5, .d (.sl (Is l))), (6, .d (.i .i64 ((List.length l : Nat) : Int))), (7, .d (.i .i64 ((i : Nat) : Int)))]) (h := fun _ => []) (r := fun i => i) (I := fun i => i ≤ l.length ∧ i ≤ m) ?_ 0 ⟨Nat.zero_le _, Nat.zero_le _⟩
  rintro i ⟨hi, him⟩ ih
  refine .seq ?_; refine .lift ?_; refine .region ?_; refine vk (vbi) ?_; refine .nil ?_
  show AWJ _ _ _ _ _ _ _ _ _
  refine .seq ?_
  by_cases hc : ((i : Nat) : Int) < ((List.length l : Nat) : Int)
  · refine .cond (x := true) (by show AV.d (.b (decide _)) = _; rw [decide_eq_true hc]) (fun _ => ?_) (fun h => by cases h)
    have hlt : i < l.length := by omega
    obtain ⟨q, x, hq, hx, hxi⟩ := hat i _ (List.getElem?_eq_getElem hlt)
    refine .skip ?_
    show AWJ _ _ _ _ _ _ _ _ _
    refine .seq ?_; refine .block ?_; refine .seq ?_; refine .lift ?_; refine .region ?_; refine vk (vix i rfl (Is_at (List.getElem?_eq_getElem hlt)) rfl gs_Is) ?_; refine vk (vldp ga_int) ?_; refine asd ?_; refine .nil ?_
    show AWJ _ _ _ _ _ _ _ _ _
    refine .seq ?_; refine .region ?_; refine vkJ (vmvd) ?_; refine vkJ (vmvd) ?_; refine vkJ (vcl0 (ratOfInt_ok hq) Tryz.call72) ?_; refine vkJ (vcl0 (array_number_ok hx) Tryz.call71) ?_; refine yld (hR i [dvIt x] (itY_at hxi) him) hJ ?_; refine vkJ (vnt) ?_; refine .nil ?_
    show AWJ _ _ _ _ _ _ _ _ _
    by_cases hm : i < m
    · refine .cond (x := false) (by show AV.d (.b (!decide _)) = _; rw [decide_eq_true hm]; rfl) (fun h => by cases h) (fun _ => ?_)
      refine .skip ?_
      show AWJ _ _ _ _ _ _ _ _ _
      refine .lift ?_; refine .region ?_; refine vk (vbi) ?_; refine vk (vmvd) ?_; refine .nil ?_
      show ALJ _ _ _ _ _ _ _ _ _
      have hw : IntKind.wrap .i64 ((i : Int) + 1) = ((i + 1 : Nat) : Int) := by simp only [IntKind.wrap, IntKind.bits, IntKind.signed]; simp; omega
      rw [hw]
      refine ALJ.gh (Gh.keep [0, 5, 6, 7] rfl) ?_
      exact ih (i + 1) ⟨hlt, hm⟩ (by omega)
    · refine .cond (x := true) (by show AV.d (.b (!decide _)) = _; rw [decide_eq_false hm]; rfl) (fun _ => ?_) (fun h => by cases h)
      refine .ret ?_
      exact ⟨.inr rfl, by rw [hyl]; omega⟩
  · refine .cond (x := false) (by show AV.d (.b (decide _)) = _; rw [decide_eq_false hc]) (fun h => by cases h) (fun _ => ?_)
    refine .exit ?_
    exact ⟨.inl rfl, by rw [hyl]; omega⟩

end Go.FL
/-
  array.vector, Ints, Text: what they make.
-/
namespace Go.FL
open Go Go.Proofs

def vecOf (proto : Itm) (xs : List Itm) : Arr := .mk [((min xs.length 4096 : Nat) : Int)] (if xs.length = 0 then [proto] else xs.take 4096)
abbrev vecH (xs : List Itm) (n : Nat) : Heap := [.box [.own 3 (Is [((n : Nat) : Int)]), .own 83 (Its (xs.take n))]]

theorem gz0_Its : 0 < szOf Tryz.prog 83 := by rw [gz_Itm]; decide
set_option maxRecDepth 10000 in
set_option maxHeartbeats 4000000 in
theorem vector_fn {proto : Itm} {xs : List Itm} {f : FuncId} {caps : List DV} (hcall : ∀ args w, (callFunc f args).run Tryz.prog w = .ok (.enter f args) w) (hit : ItG Tryz.prog f caps (itY xs) 4096) :
    Fn Tryz.prog 76 [dvIt proto, .fn f [] caps] (.d (.ag [.sl (Is (vecOf proto xs).shape), .sl (Its (vecOf proto xs).items)])) := by
  refine Fn.ofMA (rs := [.cell 4 25]) (nt := 37) Tryz.func76 rfl rfl rfl (by simp) rfl ?_; refine .seqA ?_; refine .region ?_; refine vk (vbx (cs := [.i .u8 proto.kind, .b proto.num.1, .sl (L proto.num.2.1), .sl (L proto.num.2.2), .i .i32 proto.char, .sl (Ars proto.box)])) ?_; refine vk (van (zero_of gI_Arr) gZ_Arr) ?_; refine .nil ?_
  show AWM _ _ _ _ _ _
  refine .seqA ?_; refine .region ?_; refine vk (vbslE (ds' := Is [0]) rfl (Is_flat [0]) ge_Is) ?_; refine bdo gP_Arr gI_Arr rfl ?_
  refine al ?_ (zero_of gI_Arr) (fun w I μ => gZA_Arr w I μ)
  refine st2 (c0 := .nl) (c1 := .nl) rfl ?_ gS_Arr
  refine .nil ?_
  show AWM _ _ _ _ _ _
  refine .gh (Gh.keep [1, 2, 4, 5] rfl) ?_; refine .gh (Gh.nlOwnC (id := 0) (off := 1) 83 gz0_Its) ?_; refine .seq rfl ?_; refine .seqA ?_; refine .region ?_; refine vk (vmvd) ?_; refine .nil ?_
  show AWM _ _ _ _ _ _
  refine .block ?_
  refine AWM.rangeFuncG (ps := [10]) (f := f) (caps := caps) (ys := itY xs) (m := 4096) (e1 := .exit 0) rfl rfl rfl hcall hit (fun ds hd => ?_) (fun p hp => ?_) rfl (fun k H => H = vecH xs (min k 4096)) rfl (.inl ⟨0, rfl⟩) (fun l k ds H hk hkm hH => ?_) (fun H hH => ?_)
  · simp only [itY, List.mem_map] at hd
    obtain ⟨x, _, rfl⟩ := hd; rfl
  · simp only [List.mem_cons, List.not_mem_nil, or_false] at hp; subst hp; rfl
  · subst hH
    simp only [itY, List.getElem?_map, Option.map_eq_some_iff] at hk
    obtain ⟨x, hx, rfl⟩ := hk
    rw [Nat.min_eq_left hkm]
    refine .region ?_; refine vk (van (zero_of gI_Itm) gZ_Itm) ?_
    refine stn ?_ gS_Itm (by decide)
    refine .nil ?_
    show AW _ _ _ _ _ _
    refine .block ?_; refine .seq ?_; refine .seq ?_; refine .region ?_; refine vk (vfab gF_Arr_0) ?_
    refine ldbo (cs := [.own 3 (Is [((k : Nat) : Int)]), .own 83 (Its (xs.take k))]) rfl rfl ?_ ga_Is
    refine ixr (len := 1) (xs := Is [((k : Nat) : Int)]) 0 rfl (by decide) ?_ gs_Is (by decide)
    refine lde (xs := Is [((k : Nat) : Int)]) (.i .i64 ((k : Nat) : Int)) ⟨_, rfl, rfl⟩ ?_ ga_int
    refine vk (vbi) ?_; refine rn ?_
    by_cases hm : ((k : Nat) : Int) = 4096
    · refine cnt (decide_eq_true hm) ?_
      refine .exit ?_
      have hk4 : k = 4096 := by omega
      subst hk4
      exact ⟨rfl, rfl⟩
    refine cnf (decide_eq_false hm) ?_
    have hlt : k < 4096 := by omega
    have hkl : k < xs.length := (List.getElem?_eq_some_iff.1 hx).1
    refine .skip ?_
    show AW _ _ _ _ _ _
    refine .gh (Gh.keep [5, 6] rfl) ?_; refine .seq ?_; refine .region ?_; refine vk (vfab gF_Arr_1) ?_
    refine ldbo (cs := [.own 3 (Is [((k : Nat) : Int)]), .own 83 (Its (xs.take k))]) rfl rfl ?_ ga_Its
    refine vk (vldn gA_Itm gS_Itm) ?_; refine vk (vbslE (Its_bs1 x) (Its_flat [x]) ge_Its) ?_
    have hap : ap? 1466015503701 (xs.take k) [x] = some (xs.take (k + 1)) := by
      rw [ap?, if_pos (by simp; omega), List.take_add_one, hx]; rfl
    refine apc' Its_app hap rfl rfl gB_Its ?_ Its_sz1 Its_length ge_Its
    refine RL.gh (Gh.keep [5, 6, 20] rfl) ?_; refine vk (vfab gF_Arr_1) ?_
    refine stbo (cs := [.own 3 (Is [((k : Nat) : Int)]), .un]) (c := .un) rfl rfl ?_ gz_Its
    refine rn ?_; refine .gh (Gh.keep [5] rfl) ?_; refine .region ?_; refine vk (vfab gF_Arr_0) ?_
    refine ldbo (cs := [.own 3 (Is [((k : Nat) : Int)]), .own 83 (Its (xs.take (k + 1)))]) rfl rfl ?_ ga_Is
    refine ixr (len := 1) (xs := Is [((k : Nat) : Int)]) 0 rfl (by decide) ?_ gs_Is (by decide)
    refine lde (xs := Is [((k : Nat) : Int)]) (.i .i64 ((k : Nat) : Int)) ⟨_, rfl, rfl⟩ ?_ ga_int
    refine vk (vbi) ?_
    refine ixr (len := 1) (xs := Is [((k : Nat) : Int)]) 0 rfl (by decide) ?_ gs_Is (by decide)
    refine ste (xs := Is [((k : Nat) : Int)]) ⟨_, rfl, rfl⟩ ?_ gz_int (hn := fun _ _ _ => Nat.zero_le _)
    refine .nil ?_
    have hw : IntKind.wrap .i64 ((k : Int) + 1) = ((k + 1 : Nat) : Int) := by simp only [IntKind.wrap, IntKind.bits, IntKind.signed]; simp; omega
    refine ⟨by rw [if_pos hlt], ?_⟩
    rw [Nat.min_eq_left (by omega : k + 1 ≤ 4096)]
    show [HO.box [AV.own _ [.i .i64 (IntKind.wrap .i64 ((k : Int) + 1))], _]] = _
    rw [hw]; rfl
  · have hlen : (itY xs).length = xs.length := by simp [itY]
    rw [hlen] at hH ⊢
    have hn : min (min (4096 + 1) xs.length) 4096 = min xs.length 4096 := by omega
    rw [hn] at hH
    subst hH
    by_cases hb : 4096 < xs.length
    case' pos => rw [if_pos hb]
    case' neg => rw [if_neg hb]
    all_goals
      show AWM _ _ _ _ _ _
      refine .lift ?_; refine .gh (Gh.keep [2, 4, 5] rfl) ?_; refine .seq ?_; refine .seq ?_; refine .region ?_; refine vk (vfab gF_Arr_0) ?_
      refine ldbo (cs := [.own 3 (Is [((min xs.length 4096 : Nat) : Int)]), .own 83 (Its (xs.take (min xs.length 4096)))]) rfl rfl ?_ ga_Is
      refine ixr (len := 1) (xs := Is [((min xs.length 4096 : Nat) : Int)]) 0 rfl (by decide) ?_ gs_Is (by decide)
      refine lde (xs := Is [((min xs.length 4096 : Nat) : Int)]) (.i .i64 ((min xs.length 4096 : Nat) : Int)) ⟨_, rfl, rfl⟩ ?_ ga_int
      refine vk (vbi) ?_; refine rn ?_; refine .gh (Gh.keep [2, 4, 5, 32] rfl) ?_
      by_cases h0 : ((min xs.length 4096 : Nat) : Int) = 0
      · have hx0 : xs.length = 0 := by omega
        refine cnt (decide_eq_true h0) ?_; refine .region ?_; refine vk (vlda gA_Itm gS_Itm) ?_; refine vk (vbslE (Its_bs1 proto) (Its_flat [proto]) ge_Its) ?_; refine vk (vfab gF_Arr_1) ?_
        refine stbo (cs := [.own 3 (Is [((min xs.length 4096 : Nat) : Int)]), .own 83 (Its (xs.take (min xs.length 4096)))]) (c := .own 83 (Its (xs.take (min xs.length 4096)))) rfl rfl ?_ gz_Its
        refine .nil ?_
        show AW _ _ _ _ _ _
        refine .gh (Gh.keep [4, 5] rfl) ?_; refine .seq ?_; refine .region ?_; refine fz (p := .c 0 0) ?_; refine fz (p := .c 0 1) ?_; refine vk (vldba (cs := [.d (.sl (Is [((min xs.length 4096 : Nat) : Int)])), .d (.sl (Its [proto]))]) (ds := [.sl (Is [((min xs.length 4096 : Nat) : Int)]), .sl (Its [proto])]) rfl gA_Arr gS_Arr) ?_
        refine stn ?_ gS_Arr (by decide)
        refine rn ?_; refine .ret ?_
        exact ⟨.inr rfl, .inl ⟨_, ⟨.inr rfl, gA_Arr, gS_Arr, (by decide : (0 : Nat) < 2)⟩, by simp only [vecOf, if_pos hx0]; rfl⟩⟩
      · have hx0 : ¬ xs.length = 0 := by omega
        refine cnf (decide_eq_false h0) ?_; refine .skip ?_
        show AW _ _ _ _ _ _
        refine .gh (Gh.keep [4, 5] rfl) ?_; refine .seq ?_; refine .region ?_; refine fz (p := .c 0 0) ?_; refine fz (p := .c 0 1) ?_; refine vk (vldba (cs := [.d (.sl (Is [((min xs.length 4096 : Nat) : Int)])), .d (.sl (Its (xs.take (min xs.length 4096))))]) (ds := [.sl (Is [((min xs.length 4096 : Nat) : Int)]), .sl (Its (xs.take (min xs.length 4096)))]) rfl gA_Arr gS_Arr) ?_
        refine stn ?_ gS_Arr (by decide)
        refine rn ?_; refine .ret ?_
        have ht : xs.take (min xs.length 4096) = xs.take 4096 := by
          rcases Nat.le_total xs.length 4096 with h | h
          · rw [Nat.min_eq_left h, List.take_of_length_le (Nat.le_refl _), List.take_of_length_le h]
          · rw [Nat.min_eq_right h]
        exact ⟨.inr rfl, .inl ⟨_, ⟨.inr rfl, gA_Arr, gS_Arr, (by decide : (0 : Nat) < 2)⟩, by simp only [vecOf, if_neg hx0, ht]; rfl⟩⟩

def arInts (l : List Int) : Option Arr := if l.length ≤ 9223372036854775806 then (intItems l).bind fun xs => (ratOfInt 0).bind fun q => (array_number q).bind fun p => some (vecOf p xs) else none
theorem arInts_ok {l : List Int} {r : Arr} (h : arInts l = some r) : Fn Tryz.prog 30 [.sl (Is l)] (.d (.ag [.sl (Is r.shape), .sl (Its r.items)])) := by
  obtain ⟨hl, h⟩ := ite_n h
  obtain ⟨xs, hxs, h⟩ := bnd h
  obtain ⟨q, hq, h⟩ := bnd h
  obtain ⟨p, hp, h⟩ := bnd h
  cases h
  refine Fn.ofC (rs := [.cell 2 25]) (nt := 7) Tryz.func30 rfl rfl rfl (by simp) rfl ?_; refine .seq ?_; refine .region ?_; refine vk (vbxd) ?_; refine vk (van (zero_of gI_Arr) gZ_Arr) ?_; refine rn ?_; refine .seq ?_; refine .region ?_; refine vk (vcl0 (ratOfInt_ok hq) Tryz.call72) ?_; refine vk (vcl0 (array_number_ok hp) Tryz.call71) ?_; refine vk (vmkf) ?_; refine vk (vcl0 (vector_fn (proto := p) Tryz.call77 (Ints1_it hxs hl 4096)) Tryz.call76) ?_
  refine stn ?_ gS_Arr (by decide)
  refine rn ?_; refine .ret ?_
  exact ⟨_, ⟨.inr rfl, gA_Arr, gS_Arr, (by decide : (0 : Nat) < 2)⟩, rfl⟩
end Go.FL
/-
  GP: glyphlaw03: live.
-/
namespace Go.FL
open Go Go.Proofs

end Go.FL
/-
  Plain laws of arrays, 3: types; what is right has few limbs.
-/
namespace Go.FL
open Go Go.Proofs

mutual
def tyI : Itm → Itm
  | .mk k _ _ b => if k = 1 then .mk 1 (ofQ 0) 0 [] else if k = 2 then .mk 2 (false, [], []) 32 [] else .mk 3 (false, [], []) 0 (tyBs b)
def tyA : Arr → Arr
  | .mk s i => .mk s (tyIs i)
def tyIs : List Itm → List Itm
  | [] => []
  | x :: xs => tyI x :: tyIs xs
def tyBs : List Arr → List Arr
  | [] => []
  | a :: _ => [tyA a]
end
end Go.FL
/-
  Plain laws of arrays, 4: Make.
-/
namespace Go.FL
open Go Go.Proofs

def cellsOf (xs : List Itm) : List Int := xs.map fun x => ((1 + cI x : Nat) : Int)
end Go.FL
/-
  Plain laws of arrays, 5: numbers, characters, vectors; what must be whatever is asked.
-/
namespace Go.FL
open Go Go.Proofs

def in64 (z : Int) : Prop := -9223372036854775808 ≤ z ∧ z ≤ 9223372036854775807
theorem fits_in64 {z : Int} (h : in64 z) : fits (z : Rat) := fits_int h.1 (by have := h.2; omega)
theorem in64_zero : in64 0 := by unfold in64; omega
end Go.FL
/-
  A FUNCTIONAL LOGIC: calls whose first argument is the nil slice itself; slices.Grow of it.
-/
namespace Go.FL
open Go Go.RowKit

def FnN (P : Program) (f : FuncId) (args : List DV) (r : AV) : Prop :=
  ∀ (w : World) (I : Nat → Prop) (vs : List Value), (∀ b, I b → b < w.heap.size) → RepAll w I args vs →
    CallsIn (om none) 0 P f (Value.slice none 0 0 :: vs).toArray w fun e w' => ∃ v I' bs, e = .returned v ∧ Below w.heap.size w w' ∧ (∀ b, I b → I' b) ∧
      (∀ b, I' b → b < w'.heap.size ∧ (b < w.heap.size → I b)) ∧ ARep P w' I' [] r v bs ∧ bs.Nodup ∧ ∀ b ∈ bs, w.heap.size ≤ b ∧ b < w'.heap.size ∧ ¬ I' b
section
variable {P : Program} {H : Heap}
def GrowN (P : Program) (f : FuncId) (e : TypeId) (M : Nat) : Prop := ∀ (n : Nat) (w : World), n ≤ M →
  Calls P f #[.slice none 0 0, .int .i64 n] w fun x w' => (x = .returned (.slice none 0 0) ∧ w' = w) ∨
    (∃ (cap : Nat) (cells : Array Value), 0 < cap ∧ cap ≤ maxLen ∧ cells.size = cap * szOf P e ∧ x = .returned (.slice (some ⟨w.heap.size, 0, none⟩) 0 cap) ∧ w' = w.drew.alloc (.cells cells e))
theorem FnN.grow {f e M : Nat} (hsz : 0 < szOf P e) (h : GrowN P f e M) {n : Nat} (hn : n ≤ M) : FnN P f [.i .i64 n] (.own e []) := by
  intro w I vs hI ha
  have hvs : vs = [.int .i64 n] := by
    cases ha with
    | cons h1 ha => cases ha; cases h1; rfl
  subst hvs
  rw [om_none]
  refine callsIn_wide.2 ((h n w hn).mono fun x w' hx => ?_)
  rcases hx with ⟨rfl, rfl⟩ | ⟨cap, cells, h0, hm, hc, rfl, rfl⟩
  · refine ⟨_, I, [], rfl, Below.refl _ _, fun _ h => h, fun b hb => ⟨hI b hb, fun _ => hb⟩, ?_, List.nodup_nil, nofun⟩
    exact .own e [] (.slice none 0 0) [] hsz (.inl ⟨none, rfl, rfl, rfl⟩) (.nil _)
  · have hlt : w.heap.size < (w.drew.alloc (.cells cells e)).heap.size := (Array.getElem?_eq_some_iff.1 (heap_alloc_new w.drew (.cells cells e))).1
    have ho : OwnR (w.drew.alloc (.cells cells e)) e (szOf P e) (.slice (some ⟨w.heap.size, 0, none⟩) 0 cap) 0 [] := by
      refine .inr ⟨⟨by simp, .inr ⟨w.heap.size, cap, cells, rfl, Nat.zero_le _, heap_alloc_new w.drew _, Nat.zero_le _, hm, hc, by simp⟩⟩, w.heap.size, cap, rfl, h0⟩
    refine ⟨_, I, [w.heap.size], rfl, ?_, fun _ h => h, fun b hb => ⟨Nat.lt_trans (hI b hb) hlt, fun _ => hb⟩, ?_, by simp, fun b hb => ?_⟩
    · exact ((Below.refl _ w).drew).alloc (Nat.le_refl _) _
    · have : [w.heap.size] = ownBs (.slice (some ⟨w.heap.size, 0, none⟩) 0 cap) := by simp [ownBs, Nat.pos_iff_ne_zero.1 h0]
      rw [this]
      exact .own e [] _ [] hsz ho (.nil _)
    · rw [List.mem_singleton] at hb
      subst hb
      exact ⟨Nat.le_refl _, hlt, fun hi => by have := hI _ hi; omega⟩
end
section
variable {P : Program} {C : Cx} {o : Oper} {ops : Array Oper} {Q : Exit → Env → Heap → Prop} {env : Env} {H : Heap} {k : Nat} {l : List Oper}
end
end Go.FL
/-
  A FUNCTIONAL LOGIC: maps with whole numbers as keys: made, filled, frozen, asked.
-/
namespace Go.FL
open Go Go.RowKit

section
variable {P : Program} {C : Cx} {X : Snap} {o : Oper} {ops : Array Oper} {Q : Exit → Env → Heap → Prop} {env env' : Env} {H H' : Heap} {a : Act} {w w' : World} {I I' : Nat → Prop} {μ μ' : List Nat} {O O' : Nat → Option Loc}
  {K : Env → Heap → Prop} {k : Nat} {l : List Oper}

theorem vmkm {ty : Nat} (ho : o.op = .makeMap ty none := by rfl) : VOK P C o env H (.om [] []) :=
  .val (by simp [ho]) fun X a w I μ O _ _ _ hs =>
    ⟨.map (some w.heap.size), w.alloc (.map #[] 0), I, [w.heap.size], by simp [execOp, ho, Instr.makeMap, newObj, Sem.run], alloc_below _, fun b hi => hi, fun b hi => ⟨Nat.lt_of_lt_of_le (hs.ilt b hi) (alloc_below _).size, fun _ => hi⟩,
      ARep.om [] [] [] [] w.heap.size #[] 0 (heap_alloc_new w _) .nil .nil (List.Perm.refl _) rfl, by simp, fun b hb => by
        simp at hb; subst hb
        exact ⟨Nat.le_refl _, by simp, fun hi => by have := hs.ilt _ hi; omega⟩⟩
def freshK (q : IntKind) (z : Int) (ks : List DV) : Prop := ∀ k ∈ ks, ∃ z', k = .i q z' ∧ z' ≠ z
theorem zip_mem {α β : Type} : ∀ {ks : List α} {vs : List β} {x : α}, ks.length = vs.length → x ∈ ks → ∃ v, (x, v) ∈ ks.zip vs
  | k :: ks, v :: vs, x, hl, h => by
    rcases List.mem_cons.1 h with rfl | h
    · exact ⟨v, by simp⟩
    · obtain ⟨u, hu⟩ := zip_mem (ks := ks) (vs := vs) (by simpa using hl) h
      exact ⟨u, by simp [hu]⟩
theorem find_none {q : IntKind} {z : Int} {ty : TypeDesc} (hty : ty = .int q) : ∀ {es : List MapEntry} {ks : List DV} (n : Nat), RepAll w I ks (es.map MapEntry.key) → freshK q z ks → Instr.findNow ty (.int q z) es n = some none
  | [], _, n, _, _ => rfl
  | e :: es, ks, n, hk, hf => by
    subst hty
    cases hk with
    | @cons c _ cs _ h t =>
      obtain ⟨z', rfl, hz⟩ := hf c (by simp)
      have he : e.key = .int q z' := by
        generalize e.key = u at h
        cases h; rfl
      have hs : Instr.sameNow (.int q) (.int q z) e.key = some false := by
        rw [he]; simp [Instr.sameNow]; exact fun h => hz h.symm
      simp only [Instr.findNow, hs]
      exact find_none rfl (n + 1) t fun k hk => hf k (by simp [hk])
theorem find_some {q : IntKind} {z : Int} {ty : TypeDesc} (hty : ty = .int q) {d : DV} : ∀ {es : List MapEntry} {ks vs : List DV} (n : Nat), RepAll w I ks (es.map MapEntry.key) → RepAll w I vs (es.map MapEntry.val) →
    (∀ k ∈ ks, ∃ z', k = .i q z') → (.i q z, d) ∈ ks.zip vs → (∀ d', (.i q z, d') ∈ ks.zip vs → d' = d) → ∃ i v, Instr.findNow ty (.int q z) es n = some (some (i, v)) ∧ Rep w I d v
  | [], _, _, n, hk, _, _, hm, _ => by cases hk; simp at hm
  | e :: es, ks, vs, n, hk, hv, hi, hm, hu => by
    subst hty
    cases hk with
    | @cons c _ cs _ h t =>
      cases hv with
      | @cons c2 _ cs2 _ h2 t2 =>
        obtain ⟨z', rfl⟩ := hi c (by simp)
        have he : e.key = .int q z' := by
          generalize e.key = u at h
          cases h; rfl
        by_cases hz : z = z'
        · subst hz
          have hs : Instr.sameNow (.int q) (.int q z) e.key = some true := by rw [he]; simp [Instr.sameNow]
          refine ⟨n, e.val, by simp only [Instr.findNow, hs], ?_⟩
          have := hu c2 (by simp)
          subst this; exact h2
        · have hs : Instr.sameNow (.int q) (.int q z) e.key = some false := by rw [he]; simp [Instr.sameNow]; exact hz
          simp only [Instr.findNow, hs]
          refine find_some rfl (n + 1) t t2 (fun k hk => hi k (by simp [hk])) ?_ (fun d' hd => hu d' (by simp [hd]))
          simp only [List.zip_cons_cons, List.mem_cons, Prod.mk.injEq, DV.i.injEq, true_and] at hm
          rcases hm with ⟨h3, _⟩ | hm
          · exact absurd h3 hz
          · exact hm
theorem run_check {kt : TypeId} {q : IntKind} {z : Int} (hk : P.underlying kt = some (.int q)) (b : Bool) (n : Nat) : (Instr.checkKey b (n + 1) kt (.int q z)).run P w = .ok () w := by
  unfold Instr.checkKey
  simp [run_underlying hk]
theorem run_findKey {kt : TypeId} {q : IntKind} {z : Int} {es : List MapEntry} {r : Option (Nat × Value)} (hk : P.underlying kt = some (.int q)) (hf : Instr.findNow (.int q) (.int q z) es 0 = some r) : (Instr.findKey kt (.int q z) es).run P w = .ok r w := by
  simp [Instr.findKey, run_underlying hk, hf]
theorem run_get {r : Nat} {es : Array MapEntry} {c : Nat} (hh : w.heap[r]? = some (.map es c)) : (getObj r).run P w = .ok (.map es c) w := by
  simp [getObj, Sem.run, hh]
theorem run_update {ty kt et : TypeId} {q : IntKind} {r : Nat} {es : Array MapEntry} {clock : Nat} {z : Int} {v : Value} (hu : P.underlying ty = some (.map kt et)) (hk : P.underlying kt = some (.int q)) (hh : w.heap[r]? = some (.map es clock)) (hf : Instr.findNow (.int q) (.int q z) es.toList 0 = some none) :
    (Instr.mapUpdate ty (.map (some r)) (.int q z) v).run P w = .ok () { w with heap := w.heap.setIfInBounds r (.map (es.push { key := .int q z, val := v, born := clock }) (clock + 1)) } := by
  have h1 := run_check (w := w) (z := z) hk false 9999
  have h2 := run_findKey (w := w) (z := z) hk hf
  have h3 := run_get (P := P) hh
  unfold Instr.mapUpdate
  simp only [run_underlying hu, Sem.run_bind, Result.andThen_ok, h1, h2, h3]
  simp [setObj, Sem.run, hh]
theorem run_lookup_hit {ty kt et : TypeId} {q : IntKind} {r : Nat} {es : Array MapEntry} {clock : Nat} {z : Int} {i : Nat} {v : Value} (hu : P.underlying ty = some (.map kt et)) (hk : P.underlying kt = some (.int q)) (hh : w.heap[r]? = some (.map es clock)) (hf : Instr.findNow (.int q) (.int q z) es.toList 0 = some (some (i, v))) :
    (Instr.lookup ty (.map (some r)) (.int q z) false).run P w = .ok v w := by
  have h1 := run_check (w := w) (z := z) hk es.isEmpty 9999
  have h2 := run_findKey (w := w) (z := z) hk hf
  have h3 := run_get (P := P) hh
  unfold Instr.lookup
  simp only [run_underlying hu, Sem.run_bind, Sem.run_pure, Result.andThen_ok, h1, h2, h3]
  rfl
theorem run_lookup_miss {ty kt et : TypeId} {q : IntKind} {r : Nat} {es : Array MapEntry} {clock : Nat} {z : Int} {v : Value} (hu : P.underlying ty = some (.map kt et)) (hk : P.underlying kt = some (.int q)) (hz : (zeroValue et).run P w = .ok v w) (hh : w.heap[r]? = some (.map es clock)) (hf : Instr.findNow (.int q) (.int q z) es.toList 0 = some none) :
    (Instr.lookup ty (.map (some r)) (.int q z) false).run P w = .ok v w := by
  have h1 := run_check (w := w) (z := z) hk es.isEmpty 9999
  have h2 := run_findKey (w := w) (z := z) hk hf
  have h3 := run_get (P := P) hh
  unfold Instr.lookup
  simp only [run_underlying hu, Sem.run_bind, Sem.run_pure, Result.andThen_ok, h1, h2, h3, hz]
  rfl
theorem perm_keys {ks vs ks' vs' : List DV} (hp : (ks'.zip vs').Perm (ks.zip vs)) (hl : ks'.length = vs'.length) {k : DV} (h : k ∈ ks') : k ∈ ks := by
  obtain ⟨v, hv⟩ := zip_mem hl h
  exact (List.of_mem_zip (hp.mem_iff.1 hv)).1
theorem Sim.om_inv (hs : Sim P X env H a w I μ O) {t : Nat} {ks vs : List DV} (hg : get env t = .om ks vs) :
    ∃ blk es c ks' vs', a.tmps.getD t undef = .map (some blk) ∧ w.heap[blk]? = some (.map es c) ∧ RepAll w I ks' (es.toList.map MapEntry.key) ∧ RepAll w I vs' (es.toList.map MapEntry.val) ∧ (ks'.zip vs').Perm (ks.zip vs) ∧ ks.length = vs.length ∧ O blk = some (.t t) := by
  have := hs.envr t
  rw [hg] at this
  obtain ⟨bs, h1, h2, h3⟩ := this.plain rfl
  generalize a.tmps.getD t undef = v at h1
  cases h1 with
  | om _ _ ks' vs' blk es c hh hk hv hp hl => exact ⟨blk, es, c, ks', vs', rfl, hh, hk, hv, hp, hl, h3 blk (by simp)⟩
theorem Sim.ins (hs : Sim P X env H a w I μ O) {t : Nat} {ks vs : List DV} (hg : get env t = .om ks vs) {ty kt et : TypeId} {q : IntKind} {z : Int} {d : DV} {v : Value} (hu : P.underlying ty = some (.map kt et)) (hk : P.underlying kt = some (.int q)) (hf : freshK q z ks) (hv : Rep w I d v) :
    ∃ w', (Instr.mapUpdate ty (a.tmps.getD t undef) (.int q z) v).run P w = .ok () w' ∧ Sim P X ((t, .om (ks ++ [.i q z]) (vs ++ [d])) :: env) H a w' I μ O := by
  obtain ⟨blk, es, c, ks', vs', h1, h2, h3, h4, h5, h6, hO⟩ := hs.om_inv hg
  have hl' : ks'.length = vs'.length := by rw [h3.length, h4.length, List.length_map, List.length_map]
  have hfn := find_none (q := q) (z := z) rfl 0 h3 fun k hk => hf k (perm_keys h5 hl' hk)
  have hlt : blk < w.heap.size := (hs.own blk _ hO).1
  refine ⟨{ w with heap := w.heap.setIfInBounds blk (.map (es.push { key := .int q z, val := v, born := c }) (c + 1)) }, by rw [h1]; exact run_update hu hk h2 hfn, ?_⟩
  have hoth : ∀ b, b ≠ blk → (w.heap.setIfInBounds blk (.map (es.push { key := .int q z, val := v, born := c }) (c + 1)))[b]? = w.heap[b]? := fun b hb => by
    rw [Array.getElem?_setIfInBounds, if_neg (Ne.symm hb)]
  obtain ⟨n1, _, _⟩ := hs.other_blk hO
  refine hs.blkSet (w' := { w with heap := w.heap.setIfInBounds blk (.map (es.push { key := .int q z, val := v, born := c }) (c + 1)) }) (av := .om (ks ++ [.i q z]) (vs ++ [d])) hO (by rw [hg]; rfl) rfl hoth (by simp) rfl rfl rfl ?_
  rw [h1]
  have hI : ∀ b, I b → (w.heap.setIfInBounds blk (.map (es.push { key := .int q z, val := v, born := c }) (c + 1)))[b]? = w.heap[b]? := fun b hi => hoth b (n1 b hi)
  refine .om _ _ (ks' ++ [.i q z]) (vs' ++ [d]) blk (es.push { key := .int q z, val := v, born := c }) (c + 1) ?_ ?_ ?_ ?_ (by simp [h6])
  · show (w.heap.setIfInBounds blk _)[blk]? = _
    rw [Array.getElem?_setIfInBounds, if_pos rfl, if_pos hlt]
  · rw [Array.toList_push, List.map_append]
    exact (h3.keep hI fun _ h => h).append (.cons (.i _ _) .nil)
  · rw [Array.toList_push, List.map_append]
    exact (h4.keep hI fun _ h => h).append (.cons (hv.keep hI fun _ h => h) .nil)
  · rw [List.zip_append hl', List.zip_append h6]
    exact List.Perm.append h5 (List.Perm.refl _)
theorem Gh.omf {t : Nat} {ks vs : List DV} (hg : get env t = .om ks vs) : Gh P C env H ((t, .d (.mp ks vs)) :: env) H := fun X a w I μ O _ _ _ hs => by
  obtain ⟨blk, es, c, ks', vs', h1, h2, h3, h4, h5, h6, hO⟩ := hs.om_inv hg
  obtain ⟨n1, n2, n3⟩ := hs.other_blk hO
  refine ⟨_, _, ⟨hs.toMem.frz [blk] (fun b hm => by simp at hm; subst hm; exact (hs.own b _ hO).1) (fun b hm hk => by simp at hm; exact n2 b hk hm) H rfl ?_, fun s => ?_, hs.nt, hs.dfs⟩⟩
  · intro id ob ho
    obtain ⟨bb, bs, k1, k2, k3, k4⟩ := hs.heap id ob ho
    refine ⟨bb, bs, k1, k2.mono fun _ h => .inl h, fun hn => ⟨(k3 hn).1, fun b hb => ?_⟩, k4⟩
    have : b ∉ [blk] := by simpa using n3 id ob bb bs ho k1 k3 k4 b hb
    simp only [this, if_false]
    exact (k3 hn).2 b hb
  · by_cases hst : t = s
    · subst hst
      rw [show get ((t, .d (.mp ks vs)) :: env) t = .d (.mp ks vs) by simp [get]]
      refine .of (bs := []) ?_ List.nodup_nil (by simp)
      rw [h1]
      exact .d (.mp ks vs ks' vs' blk es c (.inr (by simp)) h2 (h3.keep (fun _ _ => rfl) fun _ h => .inl h) (h4.keep (fun _ _ => rfl) fun _ h => .inl h) h5 h6)
    · rw [show get ((t, .d (.mp ks vs)) :: env) s = get env s by simp [get, hst]]
      have key : ∀ p e xs, plAV env H p = .own e xs → plAV ((t, AV.d (.mp ks vs)) :: env) H p = .own e xs := by
        intro p e' xs hp
        cases p with
        | t r =>
          have hr' : t ≠ r := fun h => by subst h; simp only [plAV] at hp; rw [hg] at hp; cases hp
          simp only [plAV, get, if_neg hr']; exact hp
        | c id off => exact hp
      have ht := hs.envr s
      cases hgs : get env s with
      | ref p off len =>
        rw [hgs] at ht
        obtain ⟨e', xs, A, n, c, g1, g2, g3, g4⟩ := ht
        exact ⟨e', xs, A, n, c, key p e' xs g1, g2, g3, g4⟩
      | ep p i k =>
        rw [hgs] at ht
        obtain ⟨e', xs, b, n, c, g1, g2, g3, g4, g5⟩ := ht
        exact ⟨e', xs, b, n, c, key p e' xs g1, g2, g3, g4, g5⟩
      | _ =>
        rw [hgs] at ht
        obtain ⟨bs, g1, g2, g3⟩ := ht.plain rfl
        refine .of (g1.keep (fun _ h => .inl h) (fun _ _ => rfl) (fun _ _ h => h) fun _ _ => rfl) g2 fun b hb => ?_
        have : b ∉ [blk] := fun hm => by
          simp at hm; subst hm
          have := g3 b hb; rw [hO] at this; simp at this; exact hst this
        simp only [this, if_false]
        exact g3 b hb
theorem vlku {x y : Operand} {ty kt et : TypeId} {q : IntKind} {z : Int} {ks vs : List DV} {d : DV} (hu : P.underlying ty = some (.map kt et)) (hk : P.underlying kt = some (.int q)) (hi : ∀ k ∈ ks, ∃ z', k = .i q z') (hm : (.i q z, d) ∈ ks.zip vs) (hq : ∀ d', (.i q z, d') ∈ ks.zip vs → d' = d)
    (ho : o.op = .lookup ty x y false := by rfl) (hx : deepOf (lk env x) = some (.mp ks vs) := by rfl) (hy : deepOf (lk env y) = some (.i q z) := by rfl) : VOK P C o env H (.d d) :=
  .pv ⟨by simp [ho], fun X a w I μ O _ hs => by
    have h1 := hs.deep (x := x) hx
    have h2 := hs.deep (x := y) hy
    generalize hev : a.eval x = u at h1
    generalize hev2 : a.eval y = u2 at h2
    cases h2
    cases h1 with
    | mp _ _ ks' vs' r es c hI hh h3 h4 hp hl =>
      have hl' : ks'.length = vs'.length := by rw [h3.length, h4.length, List.length_map, List.length_map]
      obtain ⟨i, v, e1, e2⟩ := find_some (q := q) (z := z) (d := d) rfl 0 h3 h4 (fun k hk => hi k (perm_keys hp hl' hk)) (hp.mem_iff.2 hm) fun d' hd => hq d' (hp.mem_iff.1 hd)
      exact ⟨v, by simp only [execOp, ho, hev, hev2, run_lookup_hit hu hk hh e1, Sem.run_bind, Result.andThen_ok, Sem.run_pure], .of_rep e2⟩⟩
theorem vlkn {x y : Operand} {ty kt et : TypeId} {q : IntKind} {z : Int} {ks vs : List DV} {d : DV} {zv : Value} (hu : P.underlying ty = some (.map kt et)) (hk : P.underlying kt = some (.int q)) (hz : ∀ w, (zeroValue et).run P w = .ok zv w) (hd : ∀ w I, Rep w I d zv) (hf : freshK q z ks)
    (ho : o.op = .lookup ty x y false := by rfl) (hx : deepOf (lk env x) = some (.mp ks vs) := by rfl) (hy : deepOf (lk env y) = some (.i q z) := by rfl) : VOK P C o env H (.d d) :=
  .pv ⟨by simp [ho], fun X a w I μ O _ hs => by
    have h1 := hs.deep (x := x) hx
    have h2 := hs.deep (x := y) hy
    generalize hev : a.eval x = u at h1
    generalize hev2 : a.eval y = u2 at h2
    cases h2
    cases h1 with
    | mp _ _ ks' vs' r es c hI hh h3 h4 hp hl =>
      have hl' : ks'.length = vs'.length := by rw [h3.length, h4.length, List.length_map, List.length_map]
      have e1 := find_none (q := q) (z := z) rfl 0 h3 fun k hk => hf k (perm_keys hp hl' hk)
      exact ⟨zv, by simp only [execOp, ho, hev, hev2, run_lookup_miss hu hk (hz w) hh e1, Sem.run_bind, Result.andThen_ok, Sem.run_pure], .of_rep (hd w I)⟩⟩
end
end Go.FL
/-
  A FUNCTIONAL LOGIC: is a function nil?
-/
namespace Go.FL
open Go Go.RowKit

section
variable {P : Program} {C : Cx} {X : Snap} {o : Oper} {ops : Array Oper} {Q : Exit → Env → Heap → Prop} {env env' : Env} {H H' : Heap} {a : Act} {w w' : World} {I I' : Nat → Prop} {μ μ' : List Nat} {O O' : Nat → Option Loc}
  {K : Env → Heap → Prop} {k : Nat} {l : List Oper}

def isFuncT (P : Program) (t : TypeId) : Bool := match P.underlying t with
  | some (.func ..) => true
  | _ => false
theorem run_eq_fn {t : TypeId} (hu : isFuncT P t = true) (f : Go.Fn) (fs cs : Array Value) : (Op.equal t (.func f fs cs) .nilFunc).run P w = .ok false w := by
  unfold isFuncT at hu
  split at hu
  · rename_i h
    have e : Op.equal t (.func f fs cs) .nilFunc = Op.equalIn (9999 + 1) t (.func f fs cs) .nilFunc := rfl
    rw [e]
    unfold Op.equalIn
    simp only [run_underlying h, Sem.run_bind, Result.andThen_ok, Sem.run_pure]
  · cases hu
theorem run_eq_nf {t : TypeId} (hu : isFuncT P t = true) : (Op.equal t .nilFunc .nilFunc).run P w = .ok true w := by
  unfold isFuncT at hu
  split at hu
  · rename_i h
    have e : Op.equal t .nilFunc .nilFunc = Op.equalIn (9999 + 1) t .nilFunc .nilFunc := rfl
    rw [e]
    unfold Op.equalIn
    simp only [run_underlying h, Sem.run_bind, Result.andThen_ok, Sem.run_pure]
  · cases hu
theorem vfqf {xt yt : TypeId} {x y : Operand} {f : FuncId} {fs cs : List DV} (hu : isFuncT P xt = true) (ho : o.op = .binOp .eql xt x y yt := by rfl) (hx : deepOf (lk env x) = some (.fn f fs cs) := by rfl) (hy : deepOf (lk env y) = some .nf := by rfl) : VOK P C o env H (.d (.b false)) := by
  refine .same (by simp [ho]) fun X a w I μ O _ hs => ⟨.bool false, ?_, .b _⟩
  have h1 := hs.deep hx
  have h2 := hs.deep hy
  generalize hev : a.eval x = v1 at h1
  generalize hev2 : a.eval y = v2 at h2
  cases h1; cases h2
  simp [execOp, ho, hev, hev2, binOp, eqGuard, run_eq_fn hu]
theorem vfqn {xt yt : TypeId} {x y : Operand} (hu : isFuncT P xt = true) (ho : o.op = .binOp .eql xt x y yt := by rfl) (hx : deepOf (lk env x) = some .nf := by rfl) (hy : deepOf (lk env y) = some .nf := by rfl) : VOK P C o env H (.d (.b true)) := by
  refine .same (by simp [ho]) fun X a w I μ O _ hs => ⟨.bool true, ?_, .b _⟩
  have h1 := hs.deep hx
  have h2 := hs.deep hy
  generalize hev : a.eval x = v1 at h1
  generalize hev2 : a.eval y = v2 at h2
  cases h1; cases h2
  simp [execOp, ho, hev, hev2, binOp, eqGuard, run_eq_nf hu]
end
end Go.FL
/-
  A FUNCTIONAL LOGIC: regions whose order is drawn, in which a map is made and filled: the entries come in any order.
-/
namespace Go.FL
open Go Go.RowKit

theorem filterMap_same {α β : Type} {f g : α → Option β} : ∀ {l : List α}, (∀ x ∈ l, f x = g x) → l.filterMap f = l.filterMap g
  | [], _ => rfl
  | x :: l, h => by
    rw [List.filterMap_cons, List.filterMap_cons, h x (by simp), filterMap_same fun y hy => h y (by simp [hy])]
theorem filterMap_one {α : Type} {f g : Nat → Option α} {i : Nat} {p : α} (hf : f i = none) (hg : g i = some p) (he : ∀ j, j ≠ i → g j = f j) : ∀ {l : List Nat}, l.Nodup → i ∈ l → (l.filterMap g).Perm (l.filterMap f ++ [p])
  | x :: l, hn, hm => by
    obtain ⟨hx, hn⟩ := List.nodup_cons.1 hn
    by_cases h : x = i
    · subst h
      rw [List.filterMap_cons_some hg, List.filterMap_cons_none hf]
      have : l.filterMap g = l.filterMap f := filterMap_same fun j hj => he j fun e => hx (e ▸ hj)
      rw [this]
      exact (List.perm_append_singleton p _).symm
    · have hm' : i ∈ l := by
        rcases List.mem_cons.1 hm with h2 | h2
        · exact absurd h2.symm h
        · exact h2
      have ih := filterMap_one hf hg he hn hm'
      cases hfx : f x with
      | none => rw [List.filterMap_cons_none hfx, List.filterMap_cons_none (by rw [he x h, hfx])]; exact ih
      | some y => rw [List.filterMap_cons_some hfx, List.filterMap_cons_some (by rw [he x h, hfx] : g x = some y), List.cons_append]; exact ih.cons y
def prs (iv : List (Option (Int × DV))) (L : Array Bool) : List (Int × DV) := (List.range iv.length).filterMap fun i => if L.getD i false = true then (iv[i]?).join else none
def omP (q : IntKind) (ps : List (Int × DV)) : AV := .om (ps.map fun p => .i q p.1) (ps.map (·.2))
theorem zip_maps (q : IntKind) : ∀ (ps : List (Int × DV)), (ps.map fun p => DV.i q p.1).zip (ps.map (·.2)) = ps.map fun p => (DV.i q p.1, p.2)
  | [] => rfl
  | p :: ps => by simp [zip_maps q ps]
theorem prs_mem {iv : List (Option (Int × DV))} {L : Array Bool} {p : Int × DV} (h : p ∈ prs iv L) : ∃ j, L.getD j false = true ∧ iv[j]? = some (some p) := by
  obtain ⟨j, _, hj⟩ := List.mem_filterMap.1 h
  split at hj
  · rename_i hl
    refine ⟨j, hl, ?_⟩
    cases hx : iv[j]? with
    | none => rw [hx] at hj; cases hj
    | some y => rw [hx] at hj; simp at hj; rw [hj]
  · cases hj
theorem prs_none {iv : List (Option (Int × DV))} {L : Array Bool} {i : Nat} (hi : i < L.size) (h : iv[i]? = some none) : prs iv (L.setIfInBounds i true) = prs iv L := by
  unfold prs
  refine filterMap_same fun j _ => ?_
  rw [listed_set hi]
  by_cases hij : i = j
  · subst hij; rw [if_pos rfl, h]; simp
  · rw [if_neg hij]
theorem prs_some {iv : List (Option (Int × DV))} {L : Array Bool} {i : Nat} {p : Int × DV} (hi : i < L.size) (hl : L.getD i false = false) (h : iv[i]? = some (some p)) : (prs iv (L.setIfInBounds i true)).Perm (prs iv L ++ [p]) := by
  unfold prs
  refine filterMap_one (i := i) ?_ ?_ (fun j hj => ?_) List.nodup_range (List.mem_range.2 (List.getElem?_eq_some_iff.1 h).1)
  · rw [hl]; rfl
  · rw [listed_set hi, if_pos rfl, if_pos rfl, h]; rfl
  · rw [listed_set hi, if_neg (Ne.symm hj)]
theorem prs_all {iv : List (Option (Int × DV))} {L : Array Bool} (h : ∀ j, j < iv.length → L.getD j false = true) : prs iv L = iv.filterMap id := by
  have : ∀ (iv : List (Option (Int × DV))), (List.range iv.length).filterMap (fun i => (iv[i]?).join) = iv.filterMap id := by
    intro iv
    induction iv with
    | nil => rfl
    | cons x xs ih =>
      rw [List.length_cons, List.range_succ_eq_map]
      cases x with
      | none => simp only [List.filterMap_cons, List.filterMap_map]; exact ih
      | some y => simp only [List.filterMap_cons, List.filterMap_map]; exact congrArg _ ih
  rw [← this iv]
  unfold prs
  exact filterMap_same fun j hj => by rw [if_pos (h j (List.mem_range.1 hj))]
section
variable {P : Program} {C : Cx} {X : Snap} {o : Oper} {ops : Array Oper} {Q : Exit → Env → Heap → Prop} {env env' envi : Env} {H H' : Heap} {a : Act} {w w' : World} {I I' : Nat → Prop} {μ μ' : List Nat} {O O' : Nat → Option Loc}
  {K : Env → Heap → Prop} {k : Nat} {l : List Oper} {av : AV}
theorem Sim.om_perm (hs : Sim P X env H a w I μ O) {t : Nat} {ks vs ks2 vs2 : List DV} (hg : get env t = .om ks vs) (hp : (ks.zip vs).Perm (ks2.zip vs2)) (hl : ks2.length = vs2.length) : Sim P X ((t, .om ks2 vs2) :: env) H a w I μ O := by
  obtain ⟨blk, es, c, ks', vs', h1, h2, h3, h4, h5, h6, hO⟩ := hs.om_inv hg
  refine hs.blkSet (w' := w) (av := .om ks2 vs2) hO (by rw [hg]; rfl) rfl (fun _ _ => rfl) rfl rfl rfl rfl ?_
  rw [h1]
  exact .om _ _ ks' vs' blk es c h2 h3 h4 (h5.trans hp) hl
def dumT : Nat := 1000000000
def drawOKM (ops : Array Oper) (m : Nat) : Bool :=
  ((List.range ops.size).all fun i => match ops[i]? with
    | some o => o.after.all (fun e => !Region.binds .any e || decide (e.on < i)) && (match o.op with | .select .. => false | _ => true) && (o.looksAt ops).all (fun t => decide (t < dumT)) &&
      (if i < m then (List.range m).all fun j => match ops[j]? with
          | some oj => match oj.dst with
            | some t => !(o.looksAt ops).contains t || (decide (j < i) && direct ops i j)
            | none => true
          | none => false
        else (List.range i).all fun j => reach ops i i j)
    | none => false) && decide (m ≤ ops.size)
theorem drawOKM_at {m : Nat} (h : drawOKM ops m = true) {i : Nat} {o : Oper} (ho : ops[i]? = some o) :
    (∀ e ∈ o.after, Region.binds .any e = true → e.on < i) ∧ (∀ t ∈ o.looksAt ops, t < dumT) ∧
    (i < m → ∀ j, j < m → ∀ oj t, ops[j]? = some oj → oj.dst = some t → t ∈ o.looksAt ops → j < i ∧ direct ops i j = true) ∧ (¬ i < m → ∀ j, j < i → reach ops i i j = true) := by
  unfold drawOKM at h
  rw [Bool.and_eq_true] at h
  have hi : i < ops.size := (Array.getElem?_eq_some_iff.1 ho).1
  have := List.all_eq_true.1 h.1 i (List.mem_range.2 hi)
  rw [ho] at this
  simp only [Bool.and_eq_true] at this
  obtain ⟨⟨⟨h1, _⟩, h4⟩, h3⟩ := this
  refine ⟨fun e he hb => ?_, fun t ht => ?_, fun him j hj oj t hoj htj hm => ?_, fun him j hj => ?_⟩
  · obtain ⟨k, hk, rfl⟩ := Array.mem_iff_getElem.1 he
    have := Array.all_eq_true.1 h1 k hk
    rw [hb] at this
    simpa using this
  · simpa using List.all_eq_true.1 h4 t ht
  · rw [if_pos him] at h3
    have := List.all_eq_true.1 h3 j (List.mem_range.2 hj)
    rw [hoj] at this
    simp only [htj] at this
    have hc : (o.looksAt ops).contains t = true := List.contains_iff_mem.2 hm
    rw [hc] at this
    simpa using this
  · rw [if_neg him] at h3
    exact List.all_eq_true.1 h3 j (List.mem_range.2 hj)
def envM (tm i0 : Nat) (q : IntKind) (tv : List (Nat × AV)) (iv : List (Option (Int × DV))) (env0 : Env) (L : Array Bool) : Env :=
  (if L.getD i0 false = true then [(tm, omP q (prs iv L))] else []) ++ envL tv env0 L
theorem envM_ne {tm i0 : Nat} {q : IntKind} {tv : List (Nat × AV)} {iv : List (Option (Int × DV))} {env0 : Env} {L : Array Bool} {s : Nat} (h : s ≠ tm) : get (envM tm i0 q tv iv env0 L) s = get (envL tv env0 L) s := by
  unfold envM
  split
  · simp [get, Ne.symm h]
  · rfl
theorem envM_on {tm i0 : Nat} {q : IntKind} {tv : List (Nat × AV)} {iv : List (Option (Int × DV))} {env0 : Env} {L : Array Bool} (h : L.getD i0 false = true) : get (envM tm i0 q tv iv env0 L) tm = omP q (prs iv L) := by
  unfold envM
  rw [if_pos h]; simp [get]
theorem envM_off {tm i0 : Nat} {q : IntKind} {tv : List (Nat × AV)} {iv : List (Option (Int × DV))} {env0 : Env} {L : Array Bool} (h : L.getD i0 false = false) : envM tm i0 q tv iv env0 L = envL tv env0 L := by
  unfold envM
  rw [h]; rfl
def MOne (P : Program) (C : Cx) (ops : Array Oper) (H : Heap) (env0 vals : Env) (tm i0 ty : Nat) (q : IntKind) (i : Nat) (o : Oper) (t : Nat) (v : AV) : Option (Int × DV) → Prop
  | none => DOne P C ops H env0 vals o t v ∧ tm ∉ o.looksAt ops ∧ t < dumT ∧ (i ≠ i0 → t ≠ tm) ∧ (i = i0 → t = tm ∧ v = .om [] [])
  | some (z, d) => o.dst = none ∧ o.guard = none ∧ v = .un ∧ t = dumT + i ∧ get env0 t = .un ∧ direct ops i i0 = true ∧ ∃ x y, o.op = .insert ty (.tmp tm) x y ∧ (∀ e, lk e x = .d (.i q z)) ∧
      ((∀ e, lk e y = .d d) ∨ ∃ s, y = .tmp s ∧ s ≠ tm ∧ s ∈ o.looksAt ops ∧ get (pickE (o.looksAt ops) vals ++ env0) s = .d d)
theorem drawM {m i0 tm ty kt et : Nat} {q : IntKind} {env0 : Env} {tv : List (Nat × AV)} {iv : List (Option (Int × DV))} (hu : P.underlying ty = some (.map kt et)) (hkt : P.underlying kt = some (.int q)) (hok : drawOKM ops m = true) (hlen : tv.length = m) (hiv : iv.length = m) (hi0 : i0 < m) (htmd : tm < dumT)
    (htab : ∀ (i : Nat) o, i < m → ops[i]? = some o → ∃ t v p, tv[i]? = some (t, v) ∧ iv[i]? = some p ∧ MOne P C ops H env0 (tv.take i).reverse tm i0 ty q i o t v p)
    (hi0n : iv[i0]? = some none) (hkeys : ∀ (i j : Nat) p p', iv[i]? = some (some p) → iv[j]? = some (some p') → i ≠ j → p.1 ≠ p'.1)
    (hsuf : RL P C ops Q m (ops.toList.drop m) ((tm, omP q (iv.filterMap id)) :: (tv.reverse ++ env0)) H) (n1 : X.nt = C.nt) (n2 : X.n0 = C.n0) (n3 : X.ne = C.ne) (hle : m ≤ ops.size) :
    ∀ (fuel : Nat) (L : Array Bool) (a : Act) (w : World) (I : Nat → Prop) (O : Nat → Option Loc), L.size = ops.size → Down ops L → (∀ j, m ≤ j → L.getD j false = false) →
      (List.range m).countP (fun i => !L.getD i false) + (ops.size - m) ≤ fuel → Sim P X (envM tm i0 q tv iv env0 L) H a w I μ O → wpAnyIn (om C.ro) 0 P .any ops (Post P X Q) fuel L a w := by
  have hone : ∀ i, i < m → ∃ o t v p, ops[i]? = some o ∧ tv[i]? = some (t, v) ∧ iv[i]? = some p ∧ MOne P C ops H env0 (tv.take i).reverse tm i0 ty q i o t v p := fun i hi => by
    obtain ⟨t, v, p, h1, h2, h3⟩ := htab i _ hi (Array.getElem?_eq_getElem (by omega))
    exact ⟨_, t, v, p, Array.getElem?_eq_getElem (by omega), h1, h2, h3⟩
  -- temporaries of the table: an entry's is a number that none bears
  have htn : ∀ {i o t v p}, MOne P C ops H env0 (tv.take i).reverse tm i0 ty q i o t v p → (p = none ∧ t < dumT ∧ get env0 t = .un ∧ (∀ x ∈ (tv.take i).reverse, x.1 ≠ t) ∧ o.dst = some t) ∨ ((∃ zd, p = some zd) ∧ t = dumT + i ∧ get env0 t = .un ∧ o.dst = none) := by
    intro i o t v p h
    cases p with
    | none => exact .inl ⟨rfl, h.2.2.1, h.1.2.2.1, h.1.2.2.2.1, h.1.1⟩
    | some zd => exact .inr ⟨⟨zd, rfl⟩, h.2.2.2.1, h.2.2.2.2.1, h.1⟩
  have hdist : ∀ (i j t : Nat) v u, tv[i]? = some (t, v) → tv[j]? = some (t, u) → i = j := by
    have lt : ∀ (i j t : Nat) v u, tv[i]? = some (t, v) → tv[j]? = some (t, u) → ¬ i < j := fun i j t v u hi hj hij => by
      have hjm : j < m := by have := (List.getElem?_eq_some_iff.1 hj).1; omega
      obtain ⟨o, t', v', p, _, k1, _, k2⟩ := hone j hjm
      rw [hj] at k1; cases k1
      obtain ⟨o3, t3, v3, p3, _, k3, _, k4⟩ := hone i (by omega)
      rw [hi] at k3; cases k3
      rcases htn k2 with ⟨_, d1, _, d2, _⟩ | ⟨_, d1, _, _⟩
      · refine d2 (t, v) ?_ rfl
        rw [List.mem_reverse]
        exact List.mem_of_getElem? (by rw [List.getElem?_take_of_lt hij]; exact hi)
      · rcases htn k4 with ⟨_, d3, _, _, _⟩ | ⟨_, d3, _, _⟩ <;> omega
    intro i j t v u hi hj
    have h1 := lt i j t v u hi hj
    have h2 := lt j i t u v hj hi
    omega
  have hpre : ∀ {e : Env}, (∀ x, x ∈ e ↔ x ∈ tv) → ∀ t, (∃ i v, tv[i]? = some (t, v) ∧ get (e ++ env0) t = v) ∨ ((∀ (i : Nat) v, tv[i]? ≠ some (t, v)) ∧ get (e ++ env0) t = get env0 t) := fun {e} he t => by
    rw [get_append]
    by_cases hc : (e.map (·.1)).contains t = true
    · obtain ⟨x, hx, rfl⟩ := List.mem_map.1 (List.contains_iff_mem.1 hc)
      obtain ⟨i, hi⟩ := List.getElem?_of_mem ((he x).1 hx)
      refine .inl ⟨i, x.2, hi, ?_⟩
      rw [if_pos hc]
      refine get_unique hx fun u hu => ?_
      obtain ⟨j, hj⟩ := List.getElem?_of_mem ((he _).1 hu)
      have := hdist i j x.1 x.2 u hi hj
      subst this
      rw [hi] at hj
      simp only [Option.some.injEq] at hj
      rw [hj]
    · refine .inr ⟨fun i v hi => hc (List.contains_iff_mem.2 (List.mem_map.2 ⟨(t, v), (he _).2 (List.mem_of_getElem? hi), rfl⟩)), by rw [if_neg hc]⟩
  have h0tm : get env0 tm = .un := by
    obtain ⟨o, t, v, p, _, _, k2, k3⟩ := hone i0 hi0
    rw [hi0n] at k2; cases k2
    have := k3.2.2.2.2 rfl
    rw [← this.1]; exact k3.1.2.2.1
  have fin : ∀ (fuel : Nat) (L : Array Bool) (a : Act) (w : World) (I : Nat → Prop) (O : Nat → Option Loc), L.size = ops.size → (∀ j, m ≤ j → L.getD j false = false) → (∀ j, j < m → L.getD j false = true) → ops.size - m ≤ fuel →
      Sim P X (envM tm i0 q tv iv env0 L) H a w I μ O → wpAnyIn (om C.ro) 0 P .any ops (Post P X Q) fuel L a w := by
    intro fuel L a w I O hL hup hall hf hs
    refine drawB (fun i o ho => (drawOKM_at hok ho).1) (fun i o ho hm => (drawOKM_at hok ho).2.2.2 (by omega)) (ops.size - m) m fuel L a w (Nat.le_refl _) (by omega) hf hL (fun j hj => ⟨fun h => ?_, hall j⟩) ?_
    · rcases Nat.lt_or_ge j m with hx | hx
      · exact hx
      · rw [hup j hx] at h; cases h
    have hs' := hs.same (env' := (tm, omP q (iv.filterMap id)) :: (tv.reverse ++ env0)) fun t => by
      by_cases htt : t = tm
      · subst htt
        rw [envM_on (hall i0 hi0), prs_all fun j hj => hall j (by omega)]; simp [get]
      · rw [envM_ne htt]
        simp only [get, if_neg (Ne.symm htt)]
        rcases hpre (e := tv.reverse) (fun x => List.mem_reverse) t with ⟨i, v, h1, h2⟩ | ⟨h1, h2⟩
        · rw [h2, getL_some hdist (hall i (by have := (List.getElem?_eq_some_iff.1 h1).1; omega)) h1]
        · rw [h2, getL_none fun i v _ => h1 i v]
    have := hsuf rfl X a w I μ O n1 n2 n3 hs'
    rw [List.length_drop, Array.length_toList] at this
    exact this
  intro fuel
  induction fuel with
  | zero =>
    intro L a w I O hL hD hup hf hs
    refine fin 0 L a w I O hL hup (fun j hj => ?_) (by omega) hs
    cases hv : L.getD j false with
    | true => rfl
    | false =>
      have : 0 < (List.range m).countP (fun i => !L.getD i false) := List.countP_pos_iff.2 ⟨j, List.mem_range.2 hj, by rw [hv]; rfl⟩
      omega
  | succ fuel ih =>
    intro L a w I O hL hD hup hf hs
    by_cases hall : ∀ j, j < m → L.getD j false = true
    · exact fin _ L a w I O hL hup hall (by omega) hs
    have hex : ∃ j, j < m ∧ L.getD j false = false := by
      apply Classical.byContradiction
      intro hno
      refine hall fun j hj => ?_
      cases hv : L.getD j false with
      | true => rfl
      | false => exact absurd ⟨j, hj, hv⟩ hno
    obtain ⟨j0, ⟨hj0, hj1⟩, hmin⟩ : ∃ j, (j < m ∧ L.getD j false = false) ∧ ∀ k, k < j → L.getD k false = true := by
      obtain ⟨j, hj⟩ := hex
      induction j using Nat.strongRecOn with
      | ind j ihj =>
        by_cases hk : ∃ k, k < j ∧ L.getD k false = false
        · obtain ⟨k, hk1, hk2⟩ := hk
          exact ihj k hk1 ⟨by omega, hk2⟩
        · refine ⟨j, hj, fun k hk1 => ?_⟩
          cases hv : L.getD k false with
          | true => rfl
          | false => exact absurd ⟨k, hk1, hv⟩ hk
    have hr0 : j0 ∈ Region.ready .any ops L := mem_ready.2 ⟨by rw [listed_def (by omega)]; exact hj1, _, Array.getElem?_eq_getElem (by omega), fun e he hb => hmin _ ((drawOKM_at hok (Array.getElem?_eq_getElem (by omega))).1 e he hb)⟩
    refine ⟨fun h0 => (by rw [h0] at hr0; cases hr0), fun i hi => ?_⟩
    obtain ⟨h1, o, ho, h2⟩ := mem_ready.1 hi
    have hlt := (Array.getElem?_eq_some_iff.1 ho).1
    rw [listed_def (by omega)] at h1
    have him : i < m := by
      rcases Nat.lt_or_ge i m with hx | hx
      · exact hx
      · have := reach_down hD _ _ _ ((drawOKM_at hok ho).2.2.2 (by omega) j0 (by omega)) fun o' ho' e he hb => by rw [ho] at ho'; cases ho'; exact h2 e he hb
        rw [hj1] at this; cases this
    obtain ⟨o', t, v, p, ho', htv, hpv, hmo⟩ := hone i him
    rw [ho] at ho'; cases ho'
    -- the operations behind: what is counted
    have hnext : (∀ s, s ≠ t → get (envL tv env0 (L.setIfInBounds i true)) s = get (envL tv env0 L) s) ∧ get (envL tv env0 (L.setIfInBounds i true)) t = v ∧
        ∀ a' w' I' O', Sim P X (envM tm i0 q tv iv env0 (L.setIfInBounds i true)) H a' w' I' μ O' → wpAnyIn (om C.ro) 0 P .any ops (Post P X Q) fuel (L.setIfInBounds i true) a' w' := by
      refine ⟨fun s hts => ?_, getL_some hdist (by rw [listed_set (by omega), if_pos rfl]) htv, fun a' w' I' O' hs' => ?_⟩
      · by_cases hex : ∃ (j : Nat) (u : AV), L.getD j false = true ∧ tv[j]? = some (s, u)
        · obtain ⟨j, u, hj1, hj2⟩ := hex
          rw [getL_some hdist hj1 hj2]
          exact getL_some hdist (by rw [listed_set (by omega)]; split; · rfl
                                    · exact hj1) hj2
        · rw [getL_none fun j u hl hj => hex ⟨j, u, hl, hj⟩]
          refine getL_none fun j u hl hj => ?_
          rw [listed_set (by omega)] at hl
          split at hl
          · rename_i hij; subst hij
            rw [htv] at hj; cases hj; exact hts rfl
          · exact hex ⟨j, u, hl, hj⟩
      · refine ih _ a' w' I' O' (by simpa using hL) (fun k ok hk hok' e he hb => ?_) (fun j hj => ?_) ?_ hs'
        · rw [listed_set (by omega)] at hk ⊢
          split at hk
          · rename_i hik; subst hik
            rw [ho] at hok'; cases hok'
            split
            · rfl
            · exact h2 e he hb
          · split
            · rfl
            · exact hD k ok hk hok' e he hb
        · rw [listed_set (by omega), if_neg (by omega)]; exact hup j hj
        · have := countP_set (fun i => !L.getD i false) (fun k => !(L.setIfInBounds i true).getD k false) i (by simp only [h1]; rfl) (by simp only [listed_set (by omega : i < L.size), if_true]; rfl)
            (fun j hj => by simp only [listed_set (by omega : i < L.size)]; rw [if_neg (Ne.symm hj)]) (List.range m) (List.mem_range.2 him) List.nodup_range
          omega
    obtain ⟨hsame, hat, hgo⟩ := hnext
    -- what it looks at is known
    have hdir : ∀ (j s : Nat) u, tv[j]? = some (s, u) → s ∈ o.looksAt ops → L.getD j false = true := fun j s u hj hm => by
      have hjm : j < m := by have := (List.getElem?_eq_some_iff.1 hj).1; omega
      obtain ⟨oj', tj', vj', pj', r1, r2, _, r3⟩ := hone j hjm
      rw [hj] at r2; cases r2
      have hsd := (drawOKM_at hok ho).2.1 s hm
      rcases htn r3 with ⟨_, _, _, _, hdst⟩ | ⟨_, hd2, _, _⟩
      · obtain ⟨o2, ho2, e, he, hb, rfl⟩ := direct_spec ((drawOKM_at hok ho).2.2.1 him j hjm oj' s r1 hdst hm).2
        rw [ho] at ho2; cases ho2
        exact h2 e he hb
      · have hlt2 : s < dumT := hsd
        exact absurd hlt2 (by omega)
    have hleL : ∀ s, get (pickE (o.looksAt ops) (tv.take i).reverse ++ env0) s = .un ∨ get (pickE (o.looksAt ops) (tv.take i).reverse ++ env0) s = get (envL tv env0 L) s := fun s => by
      rw [get_append]
      split
      · rename_i hc
        obtain ⟨x, hx, rfl⟩ := List.mem_map.1 (List.contains_iff_mem.1 hc)
        have hx' := List.mem_filter.1 hx
        have hin := List.mem_reverse.1 hx'.1
        obtain ⟨j, hj⟩ := List.getElem?_of_mem (List.mem_of_mem_take hin)
        have hlk : x.1 ∈ o.looksAt ops := List.contains_iff_mem.1 hx'.2
        refine .inr ?_
        rw [getL_some hdist (hdir j x.1 x.2 hj hlk) hj]
        refine get_unique hx fun u hu => ?_
        have hu' := List.mem_reverse.1 (List.mem_filter.1 hu).1
        obtain ⟨j', hj'⟩ := List.getElem?_of_mem (List.mem_of_mem_take hu')
        have := hdist j j' x.1 x.2 u hj hj'
        subst this
        rw [hj] at hj'
        simp only [Option.some.injEq] at hj'
        rw [hj']
      · by_cases hex : ∃ (j : Nat) (u : AV), tv[j]? = some (s, u)
        · obtain ⟨j, u, hj⟩ := hex
          have hjm : j < m := by have := (List.getElem?_eq_some_iff.1 hj).1; omega
          obtain ⟨oj, tj, vj, pj, _, r2, _, r3⟩ := hone j hjm
          rw [hj] at r2; cases r2
          rcases htn r3 with ⟨_, _, hz, _⟩ | ⟨_, _, hz, _⟩ <;> exact .inl hz
        · exact .inr (getL_none fun j u _ hj => hex ⟨j, u, hj⟩).symm
    have htL : get (envL tv env0 L) t = .un := by
      rw [getL_none fun j u hl hj => by
        have := hdist i j t v u htv hj
        subst this; rw [h1] at hl; cases hl]
      rcases htn hmo with ⟨_, _, hz, _⟩ | ⟨_, _, hz, _⟩ <;> exact hz
    unfold wpOpIn
    simp only [ho]
    cases p with
    | none =>
      obtain ⟨⟨hd, htok, h0t, hnt, hself, hrk, hrun⟩, hntm, htd, hne0, heq0⟩ := hmo
      have hle1 : ∀ s, get (pickE (o.looksAt ops) (tv.take i).reverse ++ env0) s = .un ∨ get (pickE (o.looksAt ops) (tv.take i).reverse ++ env0) s = get (envM tm i0 q tv iv env0 L) s := fun s => by
        by_cases hst : s = tm
        · subst hst
          left
          rw [get_append, if_neg]
          · exact h0tm
          · intro hc
            obtain ⟨x, hx, hx2⟩ := List.mem_map.1 (List.contains_iff_mem.1 hc)
            have := (List.mem_filter.1 hx).2
            rw [hx2] at this
            exact hntm (List.contains_iff_mem.1 this)
        · rw [envM_ne hst]; exact hleL s
      have hkn : ∀ s, isOwn (get (pickE (o.looksAt ops) (tv.take i).reverse ++ env0) s) = true → get (pickE (o.looksAt ops) (tv.take i).reverse ++ env0) s = get (envM tm i0 q tv iv env0 L) s := fun s hs => by
        rcases hle1 s with h | h
        · rw [h] at hs; cases hs
        · exact h
      have hle2 : ∀ s r off len, get (pickE (o.looksAt ops) (tv.take i).reverse ++ env0) s = .ref (.t r) off len → get (pickE (o.looksAt ops) (tv.take i).reverse ++ env0) r = get (envM tm i0 q tv iv env0 L) r := fun s r off len h => by
        have := List.all_eq_true.1 hrk _ (get_mem h (by simp))
        exact hkn r (by simpa using this)
      have hle3 : ∀ s r x y, get (pickE (o.looksAt ops) (tv.take i).reverse ++ env0) s = .ep (.t r) x y → get (pickE (o.looksAt ops) (tv.take i).reverse ++ env0) r = get (envM tm i0 q tv iv env0 L) r := fun s r x y h => by
        have := List.all_eq_true.1 hrk _ (get_mem h (by simp))
        exact hkn r (by simpa using this)
      have htM : get (envM tm i0 q tv iv env0 L) t = .un := by
        by_cases hi : i = i0
        · subst hi; rw [envM_off h1]; exact htL
        · rw [envM_ne (hne0 hi)]; exact htL
      have hsi := hs.less hle1 hle2 hle3
      have hstep : ∀ a' w' I' O', Sim P X ((t, v) :: envM tm i0 q tv iv env0 L) H a' w' I' μ O' → wpAnyIn (om C.ro) 0 P .any ops (Post P X Q) fuel (L.setIfInBounds i true) a' w' := fun a' w' I' O' hs' => by
        refine hgo a' w' I' O' (hs'.same fun s => ?_)
        by_cases hi : i = i0
        · subst hi
          obtain ⟨rfl, rfl⟩ := heq0 rfl
          have hnil : prs iv (L.setIfInBounds i true) = [] := by
            rw [prs_none (by omega) hpv]
            apply List.eq_nil_iff_forall_not_mem.2
            intro x hx
            obtain ⟨j, hj1, hj2⟩ := prs_mem hx
            have hjm : j < m := by have := (List.getElem?_eq_some_iff.1 hj2).1; omega
            obtain ⟨oj, tj, vj, pj, r1, _, r2, r3⟩ := hone j hjm
            rw [hj2] at r2; cases r2
            obtain ⟨o2, ho2, e, he, hb, hee⟩ := direct_spec r3.2.2.2.2.2.1
            rw [r1] at ho2; cases ho2
            have := hD j _ hj1 r1 e he hb
            rw [hee] at this
            rw [h1] at this; cases this
          by_cases hst : s = t
          · subst hst
            rw [envM_on (by rw [listed_set (by omega), if_pos rfl]), hnil]
            simp [get, omP]
          · rw [envM_ne hst, envM_off h1]
            simp only [get, if_neg (Ne.symm hst)]
            exact hsame s hst
        · have hl0 : (L.setIfInBounds i true).getD i0 false = L.getD i0 false := by rw [listed_set (by omega), if_neg hi]
          by_cases hst : s = t
          · subst hst
            rw [envM_ne (hne0 hi), hat]; simp [get]
          · simp only [get, if_neg (Ne.symm hst)]
            by_cases hsm : s = tm
            · subst hsm
              cases hx : L.getD i0 false with
              | true => rw [envM_on (by rw [hl0, hx]), envM_on hx, prs_none (by omega) hpv]
              | false => rw [envM_off (by rw [hl0, hx]), envM_off hx]; exact hsame s hst
            · rw [envM_ne hsm, envM_ne hsm]; exact hsame s hst
      rcases hrun with ⟨hg, hv⟩ | ⟨hg, hv⟩
      · rw [if_pos (grd_wanted hsi hg)]
        refine hv.step hd htok hle1 hle2 hle3 (by rw [htM]; rfl) (fun p hp e => ?_) n1 n2 n3 hs hstep
        subst e
        rcases hp with ⟨off, len, rfl⟩ | ⟨x, y, rfl⟩ <;> simp [notSelf] at hself
      · have := grd_wanted hsi hg
        rw [if_neg (by rw [this]; simp)]
        refine ⟨fun _ _ => trivial, ?_⟩
        rw [hd]
        rcases hv with rfl | rfl
        · have hp := hs.put_un t (by rw [n1]; exact htok) undef
          rw [put_cons (by rw [htM]; rfl)] at hp
          exact hstep _ _ _ _ hp
        · have hp := hs.put_hand (t := t) (by rw [n1]; exact htok) (av := .tup []) (v := undef) ⟨[], .tup .nil, List.nodup_nil, by simp⟩
          rw [put_cons (by rw [htM]; rfl)] at hp
          exact hstep _ _ _ _ hp
    | some zd =>
      obtain ⟨z, d⟩ := zd
      obtain ⟨hd, hgn, rfl, htd, h0t, hdi, x, y, hop, hx, hy⟩ := hmo
      have hi0L : L.getD i0 false = true := by
        obtain ⟨o2, ho2, e, he, hb, rfl⟩ := direct_spec hdi
        rw [ho] at ho2; cases ho2
        exact h2 e he hb
      have hne : i ≠ i0 := fun h => by subst h; rw [h1] at hi0L; cases hi0L
      have htt : t ≠ tm := by omega
      have hy' : lk (envM tm i0 q tv iv env0 L) y = .d d := by
        rcases hy with hy | ⟨s, rfl, hs1, _, hs2⟩
        · exact hy _
        · show get _ s = _
          rw [envM_ne hs1]
          rcases hleL s with h | h
          · rw [h] at hs2; cases hs2
          · rw [← h]; exact hs2
      have hfr : freshK q z ((prs iv L).map fun p => DV.i q p.1) := fun k hk => by
        obtain ⟨p, hp, rfl⟩ := List.mem_map.1 hk
        obtain ⟨j, hj1, hj2⟩ := prs_mem hp
        exact ⟨p.1, rfl, hkeys j i p (z, d) hj2 hpv fun e => by subst e; rw [h1] at hj1; cases hj1⟩
      have r1 := hs.deep (x := x) (v := .i q z) (by rw [hx]; rfl)
      have r2 := hs.deep (x := y) (v := d) (by rw [hy']; rfl)
      generalize hev : a.eval x = u at r1
      cases r1
      obtain ⟨w', k1, k2⟩ := hs.ins (envM_on hi0L) hu hkt hfr r2
      have hw : Region.wanted o (yielded ops a.tmps) = true := by unfold Region.wanted; rw [hgn]
      rw [if_pos hw]
      refine ⟨fun _ _ => trivial, ?_⟩
      have he : a.eval (.tmp tm) = a.tmps.getD tm undef := rfl
      have hrun : (execOp a.eval o).run P w = .ok .skip w' := by simp only [execOp, hop, hev, he, k1, Sem.run_bind, Result.andThen_ok, Sem.run_pure]
      rw [Oper.semAt_eq _ _ _ (by simp [hop]), hrun, Oper.uponIn_skip, hd]
      have hpp := prs_some (by omega) h1 hpv
      have k3 := k2.om_perm (t := tm) (ks2 := (prs iv (L.setIfInBounds i true)).map fun p => DV.i q p.1) (vs2 := (prs iv (L.setIfInBounds i true)).map (·.2)) (by simp [get]; exact ⟨rfl, rfl⟩) (by
        rw [zip_maps, List.zip_append (by simp), zip_maps]
        have := (hpp.map fun p => (DV.i q p.1, p.2)).symm
        rw [List.map_append] at this
        exact this) (by simp)
      refine hgo _ _ _ _ (k3.same fun s => ?_)
      by_cases hsm : s = tm
      · subst hsm
        rw [envM_on (by rw [listed_set (by omega), if_neg hne]; exact hi0L)]
        simp [get, omP]
      · rw [envM_ne hsm]
        simp only [get, if_neg (Ne.symm hsm)]
        rw [envM_ne hsm]
        by_cases hst : s = t
        · subst hst; rw [hat, htL]
        · exact hsame s hst
end
end Go.FL
/-
  A FUNCTIONAL LOGIC: regions whose order is drawn, in which a map is made and filled: how they are walked.
-/
namespace Go.FL
open Go Go.RowKit

section
variable {P : Program} {C : Cx} {X : Snap} {o : Oper} {ops : Array Oper} {Q : Exit → Env → Heap → Prop} {env env' envi env0 vals : Env} {H H' : Heap} {a : Act} {w w' : World} {I I' : Nat → Prop} {μ μ' : List Nat} {O O' : Nat → Option Loc}
  {k : Nat} {l : List Oper} {av v : AV} {t tm i0 ty n : Nat} {q : IntKind} {ps qs : List (Int × DV)}
inductive DLM (P : Program) (C : Cx) (ops : Array Oper) (H : Heap) (env0 : Env) (tm i0 ty : Nat) (q : IntKind) : Nat → Env → List (Int × DV) → List Oper → Env → List (Int × DV) → Prop
  | nil (n : Nat) (vals : Env) (ps : List (Int × DV)) : DLM P C ops H env0 tm i0 ty q n vals ps [] vals ps
  | run {n : Nat} {vals fin : Env} {ps qs : List (Int × DV)} {o : Oper} {t : Nat} {v : AV} {l : List Oper} (hi : n ≠ i0) (hd : o.dst = some t) (ht : okT C.nt t) (h0 : isUn (get env0 t) = true) (hn : (vals.map (·.1)).contains t = false) (hs : notSelf t v = true)
      (hg : grd ops (pickE (o.looksAt ops) vals ++ env0) o true = true) (hv : VOK P C o (pickE (o.looksAt ops) vals ++ env0) H v) (hr : refsKnown (pickE (o.looksAt ops) vals ++ env0) = true) (hl : (o.looksAt ops).contains tm = false) (htd : t < dumT) (htm : t ≠ tm)
      (h : DLM P C ops H env0 tm i0 ty q (n + 1) ((t, v) :: vals) ps l fin qs) : DLM P C ops H env0 tm i0 ty q n vals ps (o :: l) fin qs
  | mk {vals fin : Env} {ps qs : List (Int × DV)} {o : Oper} {l : List Oper} (hd : o.dst = some tm) (ht : okT C.nt tm) (h0 : isUn (get env0 tm) = true) (hn : (vals.map (·.1)).contains tm = false)
      (hg : grd ops (pickE (o.looksAt ops) vals ++ env0) o true = true) (hv : VOK P C o (pickE (o.looksAt ops) vals ++ env0) H (.om [] [])) (hr : refsKnown (pickE (o.looksAt ops) vals ++ env0) = true) (hl : (o.looksAt ops).contains tm = false) (htd : tm < dumT)
      (h : DLM P C ops H env0 tm i0 ty q (i0 + 1) ((tm, .om [] []) :: vals) ps l fin qs) : DLM P C ops H env0 tm i0 ty q i0 vals ps (o :: l) fin qs
  | ins {n : Nat} {vals fin : Env} {ps qs : List (Int × DV)} {o : Oper} {l : List Oper} {x y : Operand} {z : Int} {d : DV} (hi : n ≠ i0) (hd : o.dst = none) (hgn : o.guard = none) (hop : o.op = .insert ty (.tmp tm) x y) (hx : ∀ e, lk e x = .d (.i q z))
      (hy : (∀ e, lk e y = .d d) ∨ ∃ s, y = .tmp s ∧ s ≠ tm ∧ s ∈ o.looksAt ops ∧ get (pickE (o.looksAt ops) vals ++ env0) s = .d d) (hdi : direct ops n i0 = true) (h0 : get env0 (dumT + n) = .un)
      (h : DLM P C ops H env0 tm i0 ty q (n + 1) ((dumT + n, .un) :: vals) (ps ++ [(z, d)]) l fin qs) : DLM P C ops H env0 tm i0 ty q n vals ps (o :: l) fin qs
theorem DLM.table {n : Nat} {vals fin : Env} {ps qs : List (Int × DV)} {l : List Oper} (h : DLM P C ops H env0 tm i0 ty q n vals ps l fin qs) : ∃ (tv : List (Nat × AV)) (iv : List (Option (Int × DV))), tv.length = l.length ∧ iv.length = l.length ∧ fin = tv.reverse ++ vals ∧ qs = ps ++ iv.filterMap id ∧
    ∀ (i : Nat) o, l[i]? = some o → ∃ t v p, tv[i]? = some (t, v) ∧ iv[i]? = some p ∧ (n + i = i0 → p = none) ∧ MOne P C ops H env0 ((tv.take i).reverse ++ vals) tm i0 ty q (n + i) o t v p := by
  induction h with
  | nil n vals ps => exact ⟨[], [], rfl, rfl, rfl, by simp, fun i o h => by simp at h⟩
  | @run n vals fin ps qs o t v l hi hd ht h0 hn hs hg hv hr hl htd htm h ih =>
    obtain ⟨tv, iv, k1, k2, k3, k4, k5⟩ := ih
    refine ⟨(t, v) :: tv, none :: iv, by simp [k1], by simp [k2], by rw [k3]; simp, by rw [k4]; simp, fun i o' hio => ?_⟩
    cases i with
    | zero =>
      simp at hio; subst hio
      refine ⟨t, v, none, rfl, rfl, fun _ => rfl, ⟨hd, ht, isUn_eq h0, fun x hx e => ?_, hs, hr, .inl ⟨hg, hv⟩⟩, fun hm => ?_, htd, fun _ => htm, fun e => absurd e hi⟩
      · subst e
        have : (vals.map (·.1)).contains x.1 = true := List.contains_iff_mem.2 (List.mem_map_of_mem hx)
        rw [hn] at this; cases this
      · have := List.contains_iff_mem.2 hm
        rw [hl] at this; cases this
    | succ i =>
      obtain ⟨t', v', p', m1, m2, m3, m4⟩ := k5 i o' (by simpa using hio)
      have e : n + (i + 1) = n + 1 + i := by omega
      refine ⟨t', v', p', by simpa using m1, by simpa using m2, by rw [e]; exact m3, ?_⟩
      rw [e]; simpa using m4
  | @mk vals fin ps qs o l hd ht h0 hn hg hv hr hl htd h ih =>
    obtain ⟨tv, iv, k1, k2, k3, k4, k5⟩ := ih
    refine ⟨(tm, .om [] []) :: tv, none :: iv, by simp [k1], by simp [k2], by rw [k3]; simp, by rw [k4]; simp, fun i o' hio => ?_⟩
    cases i with
    | zero =>
      simp at hio; subst hio
      refine ⟨tm, .om [] [], none, rfl, rfl, fun _ => rfl, ⟨hd, ht, isUn_eq h0, fun x hx e => ?_, rfl, hr, .inl ⟨hg, hv⟩⟩, fun hm => ?_, htd, fun e => absurd rfl e, fun _ => ⟨rfl, rfl⟩⟩
      · subst e
        have : (vals.map (·.1)).contains x.1 = true := List.contains_iff_mem.2 (List.mem_map_of_mem hx)
        rw [hn] at this; cases this
      · have := List.contains_iff_mem.2 hm
        rw [hl] at this; cases this
    | succ i =>
      obtain ⟨t', v', p', m1, m2, m3, m4⟩ := k5 i o' (by simpa using hio)
      have e : i0 + (i + 1) = i0 + 1 + i := by omega
      refine ⟨t', v', p', by simpa using m1, by simpa using m2, by rw [e]; exact m3, ?_⟩
      rw [e]; simpa using m4
  | @ins n vals fin ps qs o l x y z d hi hd hgn hop hx hy hdi h0 h ih =>
    obtain ⟨tv, iv, k1, k2, k3, k4, k5⟩ := ih
    refine ⟨(dumT + n, .un) :: tv, some (z, d) :: iv, by simp [k1], by simp [k2], by rw [k3]; simp, by rw [k4]; simp, fun i o' hio => ?_⟩
    cases i with
    | zero =>
      simp at hio; subst hio
      exact ⟨dumT + n, .un, some (z, d), rfl, rfl, fun e => absurd e hi, hd, hgn, rfl, rfl, h0, hdi, x, y, hop, hx, hy⟩
    | succ i =>
      obtain ⟨t', v', p', m1, m2, m3, m4⟩ := k5 i o' (by simpa using hio)
      have e : n + (i + 1) = n + 1 + i := by omega
      refine ⟨t', v', p', by simpa using m1, by simpa using m2, by rw [e]; exact m3, ?_⟩
      rw [e]; simpa using m4
theorem keys_of : ∀ {iv : List (Option (Int × DV))}, ((iv.filterMap id).map (·.1)).Nodup → ∀ (i j : Nat) p p', iv[i]? = some (some p) → iv[j]? = some (some p') → i < j → p.1 ≠ p'.1
  | [], _, i, j, p, p', h1, _, _ => by simp at h1
  | x :: iv, hn, i, j, p, p', h1, h2, hij => by
    cases j with
    | zero => omega
    | succ j =>
      have h2' : iv[j]? = some (some p') := by simpa using h2
      cases i with
      | zero =>
        simp at h1; subst h1
        simp only [List.filterMap_cons, id_eq, List.map_cons, List.nodup_cons] at hn
        intro e
        refine hn.1 (List.mem_map.2 ⟨p', List.mem_filterMap.2 ⟨some p', List.mem_of_getElem? h2', rfl⟩, e.symm⟩)
      | succ i =>
        refine keys_of (iv := iv) ?_ i j p p' (by simpa using h1) h2' (by omega)
        cases x with
        | none => simpa using hn
        | some y =>
          simp only [List.filterMap_cons, id_eq, List.map_cons, List.nodup_cons] at hn
          exact hn.2
def DKM (P : Program) (C : Cx) (ops : Array Oper) (H : Heap) (env0 : Env) (tm i0 ty : Nat) (q : IntKind) (n : Nat) (vals : Env) (ps : List (Int × DV)) (l : List Oper) (K : Env → List (Int × DV) → Prop) : Prop :=
  ∃ fin qs, DLM P C ops H env0 tm i0 ty q n vals ps l fin qs ∧ (qs.map (·.1)).Nodup ∧ K fin qs
theorem AW.drawnM {id : Nat} (m tm i0 : Nat) {ty kt et : Nat} {q : IntKind} (hu : P.underlying ty = some (.map kt et)) (hkt : P.underlying kt = some (.int q)) (hm : P.follows .mixedOrders = true) (hok : drawOKM ops m = true)
    (h : DKM P C ops H env0 tm i0 ty q 0 [] [] (ops.toList.take m) fun fin ps => RL P C ops Q m (ops.toList.drop m) ((tm, omP q ps) :: (fin ++ env0)) H) (hi0 : i0 < m := by decide) (htm : Nat.blt tm dumT = true := by rfl) : AW P C (.region id ops true) Q env0 H := fun X a w I μ O n1 n2 n3 hs => by
  obtain ⟨fin, qs, hD, hnd, hsuf⟩ := h
  obtain ⟨tv, iv, k1, k2, k3, k4, k5⟩ := hD.table
  have hle : m ≤ ops.size := by unfold drawOKM at hok; rw [Bool.and_eq_true] at hok; simpa using hok.2
  have hlen : tv.length = m := by rw [k1]; simp; omega
  have hlen2 : iv.length = m := by rw [k2]; simp; omega
  refine wpIn_region_any hm ?_
  have hz : ∀ j, (Array.replicate ops.size false).getD j false = false := fun j => by
    simp only [Array.getD_eq_getD_getElem?, Array.getElem?_replicate]
    split <;> rfl
  have hs' : Sim P X (envM tm i0 q tv iv env0 (Array.replicate ops.size false)) H a { w with drawn := w.drawn + 1 } I μ O := by
    rw [envM_off (hz i0)]
    exact (hs.grow (w' := { w with drawn := w.drawn + 1 }) ⟨rfl, rfl, rfl, Nat.le_refl _, fun _ _ => rfl⟩).same fun t => getL_none fun i v h => by
      rw [hz] at h; cases h
  rw [List.nil_append] at k4
  rw [List.append_nil] at k3
  subst k3 k4
  have htab : ∀ (i : Nat) o, i < m → ops[i]? = some o → ∃ t v p, tv[i]? = some (t, v) ∧ iv[i]? = some p ∧ (i = i0 → p = none) ∧ MOne P C ops H env0 (tv.take i).reverse tm i0 ty q i o t v p := fun i o hi ho => by
    obtain ⟨t, v, p, m1, m2, m3, m4⟩ := k5 i o (by rw [List.getElem?_take_of_lt hi]; simpa using ho)
    rw [Nat.zero_add, List.append_nil] at m4
    rw [Nat.zero_add] at m3
    exact ⟨t, v, p, m1, m2, m3, m4⟩
  refine drawM hu hkt hok hlen hlen2 hi0 (Nat.blt_eq ▸ htm) (fun i o hi ho => ?_) ?_ (fun i j p p' h1 h2 hij => ?_) hsuf n1 n2 n3 hle ops.size _ a _ I O (by simp) (fun i o h => by rw [hz] at h; cases h) (fun j _ => hz j) ?_ hs'
  · obtain ⟨t, v, p, m1, m2, _, m4⟩ := htab i o hi ho
    exact ⟨t, v, p, m1, m2, m4⟩
  · obtain ⟨t, v, p, m1, m2, m3, m4⟩ := htab i0 _ hi0 (Array.getElem?_eq_getElem (by omega))
    rw [m2, m3 rfl]
  · rcases Nat.lt_or_gt_of_ne hij with h | h
    · exact keys_of hnd i j p p' h1 h2 h
    · exact fun e => keys_of hnd j i p' p h2 h1 h e.symm
  · have : (List.range m).countP (fun i => !(Array.replicate ops.size false).getD i false) ≤ m := by
      have := List.countP_le_length (p := fun i => !(Array.replicate ops.size false).getD i false) (l := List.range m)
      simpa using this
    omega
theorem dvM {K : Env → List (Int × DV) → Prop} (hv : VOK P C o (pickE (o.looksAt ops) vals ++ env0) H v) (h : DKM P C ops H env0 tm i0 ty q (n + 1) ((t, v) :: vals) ps l K) (hd : o.dst = some t := by rfl) (hg : grd ops (pickE (o.looksAt ops) vals ++ env0) o true = true := by rfl) (h0 : isUn (get env0 t) = true := by rfl)
    (hn : (vals.map (·.1)).contains t = false := by rfl) (hs : notSelf t v = true := by rfl) (hr : refsKnown (pickE (o.looksAt ops) vals ++ env0) = true := by rfl) (hl : (o.looksAt ops).contains tm = false := by rfl) (htd : Nat.blt t dumT = true := by rfl) (htm : t ≠ tm := by decide) (hi : n ≠ i0 := by decide) (ht : okT C.nt t := by rfl) :
    DKM P C ops H env0 tm i0 ty q n vals ps (o :: l) K := by
  obtain ⟨fin, qs, h1, h2, h3⟩ := h
  exact ⟨fin, qs, .run hi hd ht h0 hn hs hg hv hr hl (Nat.blt_eq ▸ htd) htm h1, h2, h3⟩
theorem dmkM {K : Env → List (Int × DV) → Prop} (h : DKM P C ops H env0 tm i0 ty q (i0 + 1) ((tm, .om [] []) :: vals) ps l K) {ty' : Nat} (ho : o.op = .makeMap ty' none := by rfl) (hd : o.dst = some tm := by rfl) (hg : grd ops (pickE (o.looksAt ops) vals ++ env0) o true = true := by rfl) (h0 : isUn (get env0 tm) = true := by rfl)
    (hn : (vals.map (·.1)).contains tm = false := by rfl) (hr : refsKnown (pickE (o.looksAt ops) vals ++ env0) = true := by rfl) (hl : (o.looksAt ops).contains tm = false := by rfl) (htd : Nat.blt tm dumT = true := by rfl) (ht : okT C.nt tm := by rfl) :
    DKM P C ops H env0 tm i0 ty q i0 vals ps (o :: l) K := by
  obtain ⟨fin, qs, h1, h2, h3⟩ := h
  exact ⟨fin, qs, .mk hd ht h0 hn hg (vmkm ho) hr hl (Nat.blt_eq ▸ htd) h1, h2, h3⟩
theorem dicM {K : Env → List (Int × DV) → Prop} {x y : Operand} {z : Int} {d : DV} (h : DKM P C ops H env0 tm i0 ty q (n + 1) ((dumT + n, .un) :: vals) (ps ++ [(z, d)]) l K) (hop : o.op = .insert ty (.tmp tm) x y := by rfl) (hx : ∀ e, lk e x = .d (.i q z) := by intro e; rfl) (hy : ∀ e, lk e y = .d d := by intro e; rfl) (hd : o.dst = none := by rfl)
    (hgn : o.guard = none := by rfl) (hdi : direct ops n i0 = true := by kernel_rfl) (h0 : get env0 (dumT + n) = .un := by rfl) (hi : n ≠ i0 := by decide) : DKM P C ops H env0 tm i0 ty q n vals ps (o :: l) K := by
  obtain ⟨fin, qs, h1, h2, h3⟩ := h
  exact ⟨fin, qs, .ins hi hd hgn hop hx (.inl hy) hdi h0 h1, h2, h3⟩
theorem ditM {K : Env → List (Int × DV) → Prop} {x : Operand} {s : Nat} {z : Int} {d : DV} (h : DKM P C ops H env0 tm i0 ty q (n + 1) ((dumT + n, .un) :: vals) (ps ++ [(z, d)]) l K) (hop : o.op = .insert ty (.tmp tm) x (.tmp s) := by rfl) (hy : get (pickE (o.looksAt ops) vals ++ env0) s = .d d := by rfl) (hs : (o.looksAt ops).contains s = true := by rfl) (hst : s ≠ tm := by decide)
    (hx : ∀ e, lk e x = .d (.i q z) := by intro e; rfl) (hd : o.dst = none := by rfl) (hgn : o.guard = none := by rfl) (hdi : direct ops n i0 = true := by kernel_rfl) (h0 : get env0 (dumT + n) = .un := by rfl) (hi : n ≠ i0 := by decide) : DKM P C ops H env0 tm i0 ty q n vals ps (o :: l) K := by
  obtain ⟨fin, qs, h1, h2, h3⟩ := h
  exact ⟨fin, qs, .ins hi hd hgn hop hx (.inr ⟨s, rfl, hst, List.contains_iff_mem.1 hs, hy⟩) hdi h0 h1, h2, h3⟩
theorem dzM {K : Env → List (Int × DV) → Prop} (hnd : (ps.map (·.1)).Nodup) (h : K vals ps) : DKM P C ops H env0 tm i0 ty q n vals ps [] K := ⟨vals, ps, .nil n vals ps, hnd, h⟩
end
end Go.FL
/-
  scalar.ones, twos: maps of functions; extreme, comparing, logical: functions that give functions.
-/
namespace Go.FL
open Go Go.Proofs

section
variable {P : Program} {C : Cx} {o : Oper} {ops : Array Oper} {Q : Exit → Env → Heap → Prop} {env : Env} {H : Heap} {k : Nat} {l : List Oper}
theorem asu {x : Operand} {t : Nat} (h : RL P C ops Q (k + 1) l ((t, .un) :: env) H) (hg : grd ops env o true = true := by rfl) (ho : o.op = .assign x := by rfl) (hd : o.dst = some t := by rfl) (hf : isOwn (get env t) = false := by rfl) (ht : okT C.nt t := by rfl) : RL P C ops Q k (o :: l) env H := by
  rw [← put_cons hf] at h
  exact .go hg (.pure (by simp [ho]) hd ht (fun X a w I μ O _ hs => ⟨a.eval x, by simp [execOp, ho], [], .un _, List.nodup_nil, by simp⟩) h)
theorem freshK.nil {q : IntKind} {z : Int} : freshK q z [] := nofun
theorem freshK.snoc {q : IntKind} {z z' : Int} {ks : List DV} (h : freshK q z ks) (hz : z' ≠ z) : freshK q z (ks ++ [.i q z']) := fun k hk => by
  rcases List.mem_append.1 hk with h1 | h1
  · exact h k h1
  · rw [List.mem_singleton] at h1
    exact ⟨z', h1, hz⟩
end
theorem gmTwo : Tryz.prog.underlying 95 = some (.map 21 73) := by kernel_rfl
theorem gkR : Tryz.prog.underlying 21 = some (.int .i32) := by kernel_rfl

theorem extreme_fn {z : Int} : Fn Tryz.prog 140 [.i .i64 z] (.d (.fn 210 [] [.ptr [.i .i64 z]])) := by
  refine Fn.of (rs := [.tmp 2]) (nt := 4) Tryz.func140 rfl rfl rfl (by simp) rfl ?_; refine .seq ?_; refine .region ?_; refine vk (vbxd) ?_; refine asd ?_; refine rn ?_; refine .seq ?_; refine .region ?_; refine vk (vmkf) ?_; refine asd ?_; refine rn ?_; refine .ret ?_
  exact ⟨rfl, rfl⟩

theorem comparing_fn {c : RT} {f : Nat} : Fn Tryz.prog 141 [.ag [.b c.1, .sl (L c.2.1), .sl (L c.2.2)], .fn f [] []] (.d (.fn 212 [] [.ptr [.fn f [] []], .ptr [.b c.1, .sl (L c.2.1), .sl (L c.2.2)]])) := by
  refine Fn.of (rs := [.tmp 4]) (nt := 6) Tryz.func141 rfl rfl rfl (by simp) rfl ?_; refine .seq ?_; refine .region ?_; refine vk (vbx) ?_; refine vk (vbxd) ?_; refine asd ?_; refine rn ?_; refine .seq ?_; refine .region ?_; refine vk (vmkf) ?_; refine asd ?_; refine rn ?_; refine .ret ?_
  exact ⟨rfl, rfl⟩

theorem logical_fn {f : Nat} : Fn Tryz.prog 148 [.fn f [] []] (.d (.fn 214 [] [.ptr [.fn f [] []]])) := by
  refine Fn.of (rs := [.tmp 2]) (nt := 4) Tryz.func148 rfl rfl rfl (by simp) rfl ?_; refine .seq ?_; refine .region ?_; refine vk (vbxd) ?_; refine asd ?_; refine rn ?_; refine .seq ?_; refine .region ?_; refine vk (vmkf) ?_; refine asd ?_; refine rn ?_; refine .ret ?_
  exact ⟨rfl, rfl⟩

def twosD (c : RT) : List (Int × DV) := [(43, .fn 132 [] []), (215, .fn 134 [] []), (45, .fn 136 [] []), (247, .fn 88 [] []), (124, .fn 137 [] []), (42, .fn 138 [] []), (33, .fn 139 [] []), (8968, .fn 210 [] [.ptr [.i .i64 1]]), (8970, .fn 210 [] [.ptr [.i .i64 (-1)]]), (60, .fn 212 [] [.ptr [.fn 142 [] []], .ptr [.b c.1, .sl (L c.2.1), .sl (L c.2.2)]]), (8804, .fn 212 [] [.ptr [.fn 143 [] []], .ptr [.b c.1, .sl (L c.2.1), .sl (L c.2.2)]]), (61, .fn 212 [] [.ptr [.fn 144 [] []], .ptr [.b c.1, .sl (L c.2.1), .sl (L c.2.2)]]), (8805, .fn 212 [] [.ptr [.fn 145 [] []], .ptr [.b c.1, .sl (L c.2.1), .sl (L c.2.2)]]), (62, .fn 212 [] [.ptr [.fn 146 [] []], .ptr [.b c.1, .sl (L c.2.1), .sl (L c.2.2)]]), (8800, .fn 212 [] [.ptr [.fn 147 [] []], .ptr [.b c.1, .sl (L c.2.1), .sl (L c.2.2)]]), (8743, .fn 214 [] [.ptr [.fn 149 [] []]]), (8744, .fn 214 [] [.ptr [.fn 150 [] []]]), (9074, .fn 214 [] [.ptr [.fn 151 [] []]]), (9073, .fn 214 [] [.ptr [.fn 152 [] []]])]
theorem twos_fn {c : RT} : Fn Tryz.prog 59 [.ag [.b c.1, .sl (L c.2.1), .sl (L c.2.2)]] (.d (.mp ((twosD c).map fun p => .i .i32 p.1) ((twosD c).map (·.2)))) := by
  refine Fn.of (rs := [.tmp 2]) (nt := 23) Tryz.func59 rfl rfl rfl (by simp) rfl ?_; refine .seq ?_; refine .region ?_; refine vk (vbx) ?_; refine asu ?_; refine rn ?_; refine .gh (Gh.keep [1] rfl) ?_; refine .seq ?_; refine AW.drawnM 38 3 0 gmTwo gkR mixed (by kernel_rfl) ?_; refine dmkM ?_; refine dicM ?_; refine dicM ?_; refine dicM ?_; refine dicM ?_; refine dicM ?_; refine dicM ?_; refine dicM ?_; refine dvM (vcl0 extreme_fn Tryz.call140) ?_; refine ditM ?_; refine dvM (vcl0 extreme_fn Tryz.call140) ?_; refine ditM ?_; refine dvM (vlda gA_R gS_R) ?_; refine dvM (vcl0 comparing_fn Tryz.call141) ?_; refine ditM ?_; refine dvM (vlda gA_R gS_R) ?_; refine dvM (vcl0 comparing_fn Tryz.call141) ?_; refine ditM ?_; refine dvM (vlda gA_R gS_R) ?_; refine dvM (vcl0 comparing_fn Tryz.call141) ?_; refine ditM ?_; refine dvM (vlda gA_R gS_R) ?_; refine dvM (vcl0 comparing_fn Tryz.call141) ?_; refine ditM ?_; refine dvM (vlda gA_R gS_R) ?_; refine dvM (vcl0 comparing_fn Tryz.call141) ?_; refine ditM ?_; refine dvM (vlda gA_R gS_R) ?_; refine dvM (vcl0 comparing_fn Tryz.call141) ?_; refine ditM ?_; refine dvM (vcl0 logical_fn Tryz.call148) ?_; refine ditM ?_; refine dvM (vcl0 logical_fn Tryz.call148) ?_; refine ditM ?_; refine dvM (vcl0 logical_fn Tryz.call148) ?_; refine ditM ?_; refine dvM (vcl0 logical_fn Tryz.call148) ?_; refine ditM ?_; refine dzM (by show List.Nodup [(43 : Int), (215 : Int), (45 : Int), (247 : Int), (124 : Int), (42 : Int), (33 : Int), (8968 : Int), (8970 : Int), (60 : Int), (8804 : Int), (61 : Int), (8805 : Int), (62 : Int), (8800 : Int), (8743 : Int), (8744 : Int), (9074 : Int), (9073 : Int)]; decide) ?_; refine RL.gh (Gh.omf (t := 3) rfl) ?_; refine RL.gh (Gh.keep [3] rfl) ?_; refine vk (vmvd) ?_; refine asd ?_; refine rn ?_; refine .ret ?_
  exact ⟨rfl, rfl⟩
end Go.FL
/-
  A FUNCTIONAL LOGIC: maps of functions, as tables.
-/
namespace Go.FL
open Go Go.RowKit

def tabD {α β : Type} (T : List (Int × FW α β)) : List (Int × DV) := T.map fun p => (p.1, p.2.dv)
def tabV {α β : Type} (q : IntKind) (T : List (Int × FW α β)) : DV := .mp ((tabD T).map fun p => .i q p.1) ((tabD T).map (·.2))
def tabAt {α β : Type} (T : List (Int × FW α β)) (z : Int) : Option (FW α β) := (T.find? fun p => decide (p.1 = z)).map (·.2)
def optC {α β : Type} (x : Option α) (a : β) (f : α → β) : β := match x with
  | none => a
  | some y => f y
theorem optC_n {α β : Type} {x : Option α} {a r : β} {f : α → β} (e : x = none) (h : optC x a f = r) : a = r := by subst e; exact h
theorem optC_s {α β : Type} {x : Option α} {y : α} {a r : β} {f : α → β} (e : x = some y) (h : optC x a f = r) : f y = r := by subst e; exact h
theorem tab_mem {α β : Type} {T : List (Int × FW α β)} {z : Int} {f : FW α β} (h : tabAt T z = some f) : (z, f) ∈ T := by
  unfold tabAt at h
  simp only [Option.map_eq_some_iff] at h
  obtain ⟨p, hp, rfl⟩ := h
  have h1 := List.find?_some hp
  have h2 := List.mem_of_find?_eq_some hp
  have : p.1 = z := by simpa using h1
  rw [← this]; exact h2
theorem tab_not {α β : Type} {T : List (Int × FW α β)} {z : Int} (h : tabAt T z = none) : ∀ p ∈ T, p.1 ≠ z := fun p hp => by
  unfold tabAt at h
  rw [Option.map_eq_none_iff, List.find?_eq_none] at h
  simpa using h p hp
theorem tab_zip {α β : Type} (q : IntKind) (T : List (Int × FW α β)) : ((tabD T).map fun p => DV.i q p.1).zip ((tabD T).map (·.2)) = T.map fun p => (DV.i q p.1, p.2.dv) := by
  rw [zip_maps]; unfold tabD; rw [List.map_map]; rfl
theorem nodup_one {α β : Type} : ∀ {T : List (Int × FW α β)}, (T.map (·.1)).Nodup → ∀ {z f g}, (z, f) ∈ T → (z, g) ∈ T → f = g
  | p :: T, hn, z, f, g, h1, h2 => by
    rw [List.map_cons, List.nodup_cons] at hn
    rcases List.mem_cons.1 h1 with e1 | h1 <;> rcases List.mem_cons.1 h2 with e2 | h2
    · rw [← e1] at e2; cases e2; rfl
    · exact absurd (List.mem_map.2 ⟨_, h2, by rw [← e1]⟩) hn.1
    · exact absurd (List.mem_map.2 ⟨_, h1, by rw [← e2]⟩) hn.1
    · exact nodup_one hn.2 h1 h2
section
variable {P : Program} {C : Cx} {o : Oper} {ops : Array Oper} {Q : Exit → Env → Heap → Prop} {env : Env} {H : Heap} {k : Nat} {l : List Oper}
theorem vtabS {α β : Type} {T : List (Int × FW α β)} {z : Int} {f : FW α β} {x y : Operand} {ty kt et : TypeId} {q : IntKind} (hnd : (T.map (·.1)).Nodup) (hu : P.underlying ty = some (.map kt et)) (hk : P.underlying kt = some (.int q)) (h : tabAt T z = some f)
    (ho : o.op = .lookup ty x y false := by rfl) (hx : deepOf (lk env x) = some (tabV q T) := by rfl) (hy : deepOf (lk env y) = some (.i q z) := by rfl) : VOK P C o env H (.d f.dv) := by
  refine vlku (q := q) (z := z) hu hk (fun k hk => ?_) ?_ (fun d' hd => ?_) ho hx hy
  · obtain ⟨p, _, rfl⟩ := List.mem_map.1 hk; exact ⟨_, rfl⟩
  · rw [tab_zip]; exact List.mem_map.2 ⟨_, tab_mem h, rfl⟩
  · rw [tab_zip] at hd
    obtain ⟨p, hp, e⟩ := List.mem_map.1 hd
    simp only [Prod.mk.injEq, DV.i.injEq, true_and] at e
    obtain ⟨e1, rfl⟩ := e
    have : (z, p.2) ∈ T := by rw [← e1]; exact hp
    rw [nodup_one hnd this (tab_mem h)]
theorem vtabN {α β : Type} {T : List (Int × FW α β)} {z : Int} {x y : Operand} {ty kt et : TypeId} {q : IntKind} (hu : P.underlying ty = some (.map kt et)) (hk : P.underlying kt = some (.int q)) (hz : ∀ w, (zeroValue et).run P w = .ok .nilFunc w) (h : tabAt T z = none)
    (ho : o.op = .lookup ty x y false := by rfl) (hx : deepOf (lk env x) = some (tabV q T) := by rfl) (hy : deepOf (lk env y) = some (.i q z) := by rfl) : VOK P C o env H (.d .nf) := by
  refine vlkn (q := q) (z := z) hu hk hz (fun _ _ => .nf) (fun k hk => ?_) ho hx hy
  obtain ⟨p, hp, rfl⟩ := List.mem_map.1 hk
  obtain ⟨p', hp', rfl⟩ := List.mem_map.1 hp
  exact ⟨_, rfl, tab_not h p' hp'⟩
theorem vfqv {xt yt : TypeId} {x y : Operand} {d : DV} (hu : isFuncT P xt = true) (hf : ∃ f fs cs, d = .fn f fs cs) (ho : o.op = .binOp .eql xt x y yt := by rfl) (hx : deepOf (lk env x) = some d := by rfl) (hy : deepOf (lk env y) = some .nf := by rfl) : VOK P C o env H (.d (.b false)) := by
  obtain ⟨f, fs, cs, rfl⟩ := hf
  exact vfqf hu ho hx hy
end
end Go.FL
/-
  GP: facts of the types of scalar functions.
-/
namespace Go.FL
open Go Go.Proofs

abbrev FT_R_R__R_Errno : Type := FW (RT × RT) (RT × Int)
abbrev FO_R_R__R_Errno (f : FT_R_R__R_Errno) : Prop := f.OK Tryz.prog (fun x => [.ag [.b x.1.1, .sl (L x.1.2.1), .sl (L x.1.2.2)], .ag [.b x.2.1, .sl (L x.2.2.1), .sl (L x.2.2.2)]]) (fun r => .tup [.d (.ag [.b r.1.1, .sl (L r.1.2.1), .sl (L r.1.2.2)]), .d (.i .i64 r.2)])

abbrev FT_bool_bool__bool : Type := FW (Bool × Bool) (Bool)
abbrev FO_bool_bool__bool (f : FT_bool_bool__bool) : Prop := f.OK Tryz.prog (fun x => [.b x.1, .b x.2]) (fun r => .d (.b r))

abbrev FT_int__Itm_Errno : Type := FW (Int) (Itm × Int)
abbrev FO_int__Itm_Errno (f : FT_int__Itm_Errno) : Prop := f.OK Tryz.prog (fun x => [.i .i64 x]) (fun r => .tup [.d (.ag [.i .u8 r.1.kind, .b r.1.num.1, .sl (L r.1.num.2.1), .sl (L r.1.num.2.2), .i .i32 r.1.char, .sl (Ars r.1.box)]), .d (.i .i64 r.2)])
theorem gA_Ev : aggT Tryz.prog 34 = some true := by kernel_rfl
theorem gS_Ev : szOf Tryz.prog 34 = 5 := by kernel_rfl
theorem gF_Ev_1 : fieldT Tryz.prog 34 1 = some (1, 3) := by kernel_rfl
theorem gP_Ev : structT Tryz.prog 34 = some [(0, 1), (1, 3), (4, 1)] := by kernel_rfl
theorem gI_Ev : (Tryz.prog.info? 34).bind (·.zero) = some (.agg #[.int .i64 0, .bool false, .slice none 0 0, .slice none 0 0, .int .i64 0]) := by kernel_rfl
theorem gZ_Ev (w : World) (I : Nat → Prop) : RepAll w I [.i .i64 0, .b false, .sl [], .sl [], .i .i64 0] (Value.agg #[.int .i64 0, .bool false, .slice none 0 0, .slice none 0 0, .int .i64 0]).cells.toList := .cons (.i _ _) (.cons (.b _) (.cons (.sl0 _ _) (.cons (.sl0 _ _) (.cons (.i _ _) (.nil)))))
theorem gA_Pr : aggT Tryz.prog 75 = some true := by kernel_rfl
theorem gS_Pr : szOf Tryz.prog 75 = 2 := by kernel_rfl
theorem gF_Pr_0 : fieldT Tryz.prog 75 0 = some (0, 1) := by kernel_rfl
theorem gF_Pr_1 : fieldT Tryz.prog 75 1 = some (1, 1) := by kernel_rfl
theorem gP_Pr : structT Tryz.prog 75 = some [(0, 1), (1, 1)] := by kernel_rfl
theorem gI_Pr : (Tryz.prog.info? 75).bind (·.zero) = some (.agg #[.nilFunc, .int .i32 0]) := by kernel_rfl
theorem gZ_Pr (w : World) (I : Nat → Prop) : RepAll w I [.nf, .i .i32 0] (Value.agg #[.nilFunc, .int .i32 0]).cells.toList := .cons .nf (.cons (.i _ _) .nil)
theorem ga_FT_R_R__R_Errno : aggT Tryz.prog 73 = some false := by kernel_rfl
theorem gfn_FT_R_R__R_Errno : isFuncT Tryz.prog 73 = true := by kernel_rfl
theorem ga_FT_int__bool : aggT Tryz.prog 141 = some false := by kernel_rfl
theorem ga_FT_bool_bool__bool : aggT Tryz.prog 143 = some false := by kernel_rfl
end Go.FL
/-
  glyphref01.Power.
-/
namespace Go.FL
open Go Go.Proofs

end Go.FL
/-
  GP, 3b: the power of the reference.
-/
namespace Go.FL
open Go Go.Proofs

end Go.FL
/-
  GP: factorials; the reference's residues, powers, factorials, binomials.
-/
namespace Go.FL
open Go Go.Proofs

end Go.FL
