/-
  Part 5 of the base of the proofs: a logic of our own over the calculus, the contracts of the functions
-/
import Derived.Test.YtijibkhkoopgpaaRdD
set_option linter.unusedVariables false
/-
  GP: glyphref02: comparisons, copies, texts.
-/
namespace Go.FL
open Go Go.Proofs

def ref02_Compare (a0 : RT) (a1 : RT) : Option (Int) := ((ref2Right a0).bind fun x1 => (Option.bind ((if x1 = true then ((ref2Right a1).bind fun x3 => (some (!x3))) else (some true)) : Option (Bool)) fun (z1 : Bool) => (if z1 = true then (some (0)) else ((r1Mul a0.2.1 a1.2.2).bind fun x4 => ((r1Mul a1.2.1 a0.2.2).bind fun x5 => ((ref02_signed x4 a0.1 x5 (!a1.1)).bind fun x6 => (if ((List.length x6.1 : Nat) : Int) = 0 then (some (0)) else (if x6.2 = true then (some ((-1))) else (some (1))))))))))
theorem ref02_Compare_ok {a0 : RT} {a1 : RT} {r : Int} (h : ref02_Compare a0 a1 = some r) :
    Fn Try.prog 47 [.ag [.b a0.1, .sl (L a0.2.1), .sl (L a0.2.2)], .ag [.b a1.1, .sl (L a1.2.1), .sl (L a1.2.2)]] (.d (.i .i64 r)) := by
  unfold ref02_Compare at h
  refine Fn.of (rs := [.tmp 4]) (nt := 40) Try.func47 rfl rfl rfl (by simp) rfl ?_
  refine .seq ?_
  refine .region ?_
  refine vk (vbx) ?_
  refine vk (vbx) ?_
  refine asd ?_
  refine rn ?_
  refine .gh (Gh.keep [2, 3, 4] rfl) ?_
  refine .seq ?_
  refine .seq ?_
  obtain ⟨x1, hx1, h⟩ := bnd h
  obtain ⟨z1, hz, h⟩ := bnd h
  refine AW.mr (σ := Unit) (fun _ => True) (fun _ => [(2, .d (.ptr [.b a0.1, .sl (L a0.2.1), .sl (L a0.2.2)])), (3, .d (.ptr [.b a1.1, .sl (L a1.2.1), .sl (L a1.2.2)])), (4, .d (.i .i64 0)), (14, .d (.b z1))]) (fun _ => []) ?_ ?_
  · skip
    refine .region ?_
    refine vk (vlda gA_R gS_R) ?_
    refine vk (vcl0 (ref2Right_ok hx1) Try.call20) ?_
    refine vk (vnt) ?_
    by_cases hc : x1 = true
    · replace hz := ite_t hc hz
      have hb0 : (!x1) = false := (ntf hc)
      refine vk (VOK.lit (vmvd) hb0) ?_
      refine vk (vlda gA_R gS_R) ?_
      obtain ⟨x3, hx3, hz⟩ := bnd hz
      refine vk (vcl0 (ref2Right_ok hx3) Try.call20) ?_
      refine vk (vnt) ?_
      refine vk (vpkd) ?_
      refine RL.gh (Gh.keep [2, 3, 4, 14] rfl) ?_
      refine .nil ?_
      cases hz
      exact jr () trivial
    replace hz := ite_f hc hz
    have hb0 : (!x1) = true := (ntt (bf hc))
    refine vk (VOK.lit (vmvd) hb0) ?_
    refine gf ?_
    refine gf ?_
    refine gf ?_
    refine vk (vpkd) ?_
    refine RL.gh (Gh.keep [2, 3, 4, 14] rfl) ?_
    refine .nil ?_
    cases hz
    exact jr () trivial
  rintro _ _
  by_cases hc : z1 = true
  · replace h := ite_t hc h
    refine cnt hc ?_
    refine .seq ?_
    refine .region ?_
    refine asd ?_
    refine rn ?_
    refine .gh (Gh.keep [2, 3, 4] rfl) ?_
    refine .ret ?_
    cases h
    exact ⟨rfl, rfl⟩
  replace h := ite_f hc h
  refine cnf (bf hc) ?_
  refine .skip ?_
  show AW _ _ _ _ _ _
  refine .seq ?_
  obtain ⟨x4, hx4, h⟩ := bnd h
  obtain ⟨x5, hx5, h⟩ := bnd h
  obtain ⟨x6, hx6, h⟩ := bnd h
  refine .drawnF 19 [18] [(5, .d (.sl (L x6.1)))] [] mixed (by kernel_rfl) rfl ?_
  refine dv (vfa gF_R_1) ?_
  refine dv (vldp ga_L) ?_
  refine dv (vfa gF_R_2) ?_
  refine dv (vldp ga_L) ?_
  refine dv ((vcl0 (r1Mul_ok hx4) Try.call76).deep) ?_
  refine dv (vfa gF_R_0) ?_
  refine dv (vldp ga_bool) ?_
  refine dv (vfa gF_R_1) ?_
  refine dv (vldp ga_L) ?_
  refine dv (vfa gF_R_2) ?_
  refine dv (vldp ga_L) ?_
  refine dv ((vcl0 (r1Mul_ok hx5) Try.call76).deep) ?_
  refine dv (vfa gF_R_0) ?_
  refine dv (vldp ga_bool) ?_
  refine dv (vnt) ?_
  refine dv (VOK.tupd (vs := [.sl (L x6.1), .b x6.2]) (vcl0 (ref02_signed_ok hx6) Try.call105)) ?_
  refine dv (vmvd) ?_
  refine dv (vex) ?_
  refine dv (vex) ?_
  refine dz ?_
  refine ⟨?_, ?_, ?_⟩
  · intro k hk
    simp only [List.mem_cons, List.not_mem_nil, or_false] at hk
    subst hk
    exact ⟨_, _, _, rfl, rfl, rfl, rfl, rfl, rfl, vex⟩
  · intro om e hom hge
    cases hom
    exact ok_asd rfl ((hge 32 (fun k hk v hv => by
        simp only [List.mem_cons, List.not_mem_nil, or_false] at hk
        subst hk; exact (by decide : ¬ (some 33 = some 32)) (congrArg (Option.map Prod.fst) hv))).trans rfl) rfl ((congrArg isOwn (hge 5 (fun k hk v hv => by
        simp only [List.mem_cons, List.not_mem_nil, or_false] at hk
        subst hk; exact (by decide : ¬ (some 33 = some 5)) (congrArg (Option.map Prod.fst) hv)))).trans rfl) rfl ⟨rfl, rfl⟩
  refine asd ?_
  refine rn ?_
  refine .gh (Gh.keep [4, 5, 6] rfl) ?_
  refine .seq ?_
  refine .block ?_
  refine .seq ?_
  refine .region ?_
  refine vk (vmvd) ?_
  refine vk (vlnE (L_length _) (L_sz _) gu_L) ?_
  refine vk (vbi) ?_
  refine asd ?_
  refine rn ?_
  refine .gh (Gh.keep [4, 6, 34] rfl) ?_
  by_cases hc : ((List.length x6.1 : Nat) : Int) = 0
  · replace h := ite_t hc h
    refine cnt (decide_eq_true hc) ?_
    refine .seq ?_
    refine .region ?_
    refine asd ?_
    refine rn ?_
    refine .gh (Gh.keep [4] rfl) ?_
    refine .ret ?_
    cases h
    exact ⟨rfl, rfl⟩
  replace h := ite_f hc h
  refine cnf (decide_eq_false hc) ?_
  refine .seq ?_
  refine .region ?_
  refine vk (vmvd) ?_
  refine asd ?_
  refine rn ?_
  refine .gh (Gh.keep [4, 38] rfl) ?_
  by_cases hc : x6.2 = true
  · replace h := ite_t hc h
    refine cnt hc ?_
    refine .seq ?_
    refine .region ?_
    refine asd ?_
    refine rn ?_
    refine .gh (Gh.keep [4] rfl) ?_
    refine .ret ?_
    cases h
    exact ⟨rfl, rfl⟩
  replace h := ite_f hc h
  refine cnf (bf hc) ?_
  refine .skip ?_
  show AW _ _ _ _ _ _
  refine .seq ?_
  refine .region ?_
  refine asd ?_
  refine rn ?_
  refine .gh (Gh.keep [4] rfl) ?_
  refine .ret ?_
  cases h
  exact ⟨rfl, rfl⟩

end Go.FL
/-
  GP: glyphref02: comparison by a tolerance.
-/
namespace Go.FL
open Go Go.Proofs

def ref02_Tolerant (a0 : RT) (a1 : RT) (a2 : RT) : Option (Int) := ((ref2Right a0).bind fun x1 => (Option.bind ((if x1 = true then ((ref2Right a1).bind fun x3 => (if x3 = true then ((ref2Right a2).bind fun x4 => (some (!x4))) else (some true))) else (some true)) : Option (Bool)) fun (z1 : Bool) => (if z1 = true then (some (0)) else ((r1Mul a1.2.1 a2.2.2).bind fun x5 => ((r1Mul a2.2.1 a1.2.2).bind fun x6 => ((ref02_signed x5 a1.1 x6 (!a2.1)).bind fun x7 => ((r1Mul a1.2.2 a2.2.2).bind fun x8 => ((r1Mul a1.2.1 a2.2.2).bind fun x9 => ((r1Mul a2.2.1 a1.2.2).bind fun x10 => ((r1Compare x9 x10).bind fun x11 => (if x11 < 0 then ((r1Mul x7.1 a0.2.2).bind fun x12 => ((r1Mul x12 a2.2.2).bind fun x13 => ((r1Mul a0.2.1 a2.2.1).bind fun x14 => ((r1Mul x14 x8).bind fun x15 => (Option.bind ((if a0.1 = true then (if ((List.length x7.1 : Nat) : Int) = 0 then (if ((List.length a2.2.1 : Nat) : Int) = 0 then (some true) else (if a0.1 = true then (if ((List.length x13 : Nat) : Int) = 0 then (some (decide (((List.length x15 : Nat) : Int) = 0))) else (some false)) else (some false))) else (if a0.1 = true then (if ((List.length x13 : Nat) : Int) = 0 then (some (decide (((List.length x15 : Nat) : Int) = 0))) else (some false)) else (some false))) else ((r1Compare x13 x15).bind fun x17 => (if x17 ≤ 0 then (some true) else (if ((List.length x7.1 : Nat) : Int) = 0 then (if ((List.length a2.2.1 : Nat) : Int) = 0 then (some true) else (if a0.1 = true then (if ((List.length x13 : Nat) : Int) = 0 then (some (decide (((List.length x15 : Nat) : Int) = 0))) else (some false)) else (some false))) else (if a0.1 = true then (if ((List.length x13 : Nat) : Int) = 0 then (some (decide (((List.length x15 : Nat) : Int) = 0))) else (some false)) else (some false)))))) : Option (Bool)) fun (z16 : Bool) => (if z16 = true then (some (0)) else ((ref02_Compare a1 a2).bind fun x18 => (some (x18))))))))) else ((r1Mul x7.1 a0.2.2).bind fun x19 => ((r1Mul x19 a1.2.2).bind fun x20 => ((r1Mul a0.2.1 a1.2.1).bind fun x21 => ((r1Mul x21 x8).bind fun x22 => (Option.bind ((if a0.1 = true then (if ((List.length x7.1 : Nat) : Int) = 0 then (if ((List.length a1.2.1 : Nat) : Int) = 0 then (some true) else (if a0.1 = true then (if ((List.length x20 : Nat) : Int) = 0 then (some (decide (((List.length x22 : Nat) : Int) = 0))) else (some false)) else (some false))) else (if a0.1 = true then (if ((List.length x20 : Nat) : Int) = 0 then (some (decide (((List.length x22 : Nat) : Int) = 0))) else (some false)) else (some false))) else ((r1Compare x20 x22).bind fun x24 => (if x24 ≤ 0 then (some true) else (if ((List.length x7.1 : Nat) : Int) = 0 then (if ((List.length a1.2.1 : Nat) : Int) = 0 then (some true) else (if a0.1 = true then (if ((List.length x20 : Nat) : Int) = 0 then (some (decide (((List.length x22 : Nat) : Int) = 0))) else (some false)) else (some false))) else (if a0.1 = true then (if ((List.length x20 : Nat) : Int) = 0 then (some (decide (((List.length x22 : Nat) : Int) = 0))) else (some false)) else (some false)))))) : Option (Bool)) fun (z23 : Bool) => (if z23 = true then (some (0)) else ((ref02_Compare a1 a2).bind fun x25 => (some (x25))))))))))))))))))))
set_option maxHeartbeats 4000000 in
theorem ref02_Tolerant_ok {a0 : RT} {a1 : RT} {a2 : RT} {r : Int} (h : ref02_Tolerant a0 a1 a2 = some r) :
    Fn Try.prog 49 [.ag [.b a0.1, .sl (L a0.2.1), .sl (L a0.2.2)], .ag [.b a1.1, .sl (L a1.2.1), .sl (L a1.2.2)], .ag [.b a2.1, .sl (L a2.2.1), .sl (L a2.2.2)]] (.d (.i .i64 r)) := by
  unfold ref02_Tolerant at h
  refine Fn.of (rs := [.tmp 6]) (nt := 119) Try.func49 rfl rfl rfl (by simp) rfl ?_
  refine .seq ?_
  refine .region ?_
  refine vk (vbx) ?_
  refine vk (vbx) ?_
  refine vk (vbx) ?_
  refine asd ?_
  refine rn ?_
  refine .gh (Gh.keep [3, 4, 5, 6] rfl) ?_
  refine .seq ?_
  refine .seq ?_
  obtain ⟨x1, hx1, h⟩ := bnd h
  obtain ⟨z1, hz, h⟩ := bnd h
  refine AW.mr (σ := Unit) (fun _ => True) (fun _ => [(3, .d (.ptr [.b a0.1, .sl (L a0.2.1), .sl (L a0.2.2)])), (4, .d (.ptr [.b a1.1, .sl (L a1.2.1), .sl (L a1.2.2)])), (5, .d (.ptr [.b a2.1, .sl (L a2.2.1), .sl (L a2.2.2)])), (6, .d (.i .i64 0)), (26, .d (.b z1))]) (fun _ => []) ?_ ?_
  · skip
    refine .region ?_
    refine vk (vlda gA_R gS_R) ?_
    refine vk (vcl0 (ref2Right_ok hx1) Try.call20) ?_
    refine vk (vnt) ?_
    by_cases hc : x1 = true
    · replace hz := ite_t hc hz
      have hb0 : (!x1) = false := (ntf hc)
      refine vk (VOK.lit (vmvd) hb0) ?_
      refine vk (vlda gA_R gS_R) ?_
      obtain ⟨x3, hx3, hz⟩ := bnd hz
      refine vk (vcl0 (ref2Right_ok hx3) Try.call20) ?_
      refine vk (vnt) ?_
      refine vk (vpkd) ?_
      by_cases hc : x3 = true
      · replace hz := ite_t hc hz
        have hb1 : (!x3) = false := (ntf hc)
        refine vk (VOK.lit (vmvd) hb1) ?_
        refine vk (vlda gA_R gS_R) ?_
        obtain ⟨x4, hx4, hz⟩ := bnd hz
        refine vk (vcl0 (ref2Right_ok hx4) Try.call20) ?_
        refine vk (vnt) ?_
        refine vk (vpkd) ?_
        refine RL.gh (Gh.keep [3, 4, 5, 6, 26] rfl) ?_
        refine .nil ?_
        cases hz
        exact jr () trivial
      replace hz := ite_f hc hz
      have hb1 : (!x3) = true := (ntt (bf hc))
      refine vk (VOK.lit (vmvd) hb1) ?_
      refine gf ?_
      refine gf ?_
      refine gf ?_
      refine vk (vpkd) ?_
      refine RL.gh (Gh.keep [3, 4, 5, 6, 26] rfl) ?_
      refine .nil ?_
      cases hz
      exact jr () trivial
    replace hz := ite_f hc hz
    have hb0 : (!x1) = true := (ntt (bf hc))
    refine vk (VOK.lit (vmvd) hb0) ?_
    refine gf ?_
    refine gf ?_
    refine gf ?_
    refine vk (vpkd) ?_
    refine vk (vmvd) ?_
    refine gf ?_
    refine gf ?_
    refine gf ?_
    refine vk (vpkd) ?_
    refine RL.gh (Gh.keep [3, 4, 5, 6, 26] rfl) ?_
    refine .nil ?_
    cases hz
    exact jr () trivial
  rintro _ _
  by_cases hc : z1 = true
  · replace h := ite_t hc h
    refine cnt hc ?_
    refine .seq ?_
    refine .region ?_
    refine asd ?_
    refine rn ?_
    refine .gh (Gh.keep [3, 4, 5, 6] rfl) ?_
    refine .ret ?_
    cases h
    exact ⟨rfl, rfl⟩
  replace h := ite_f hc h
  refine cnf (bf hc) ?_
  refine .skip ?_
  show AW _ _ _ _ _ _
  refine .seq ?_
  obtain ⟨x5, hx5, h⟩ := bnd h
  obtain ⟨x6, hx6, h⟩ := bnd h
  obtain ⟨x7, hx7, h⟩ := bnd h
  refine .drawnF 19 [18] [(7, .d (.sl (L x7.1)))] [] mixed (by kernel_rfl) rfl ?_
  refine dv (vfa gF_R_1) ?_
  refine dv (vldp ga_L) ?_
  refine dv (vfa gF_R_2) ?_
  refine dv (vldp ga_L) ?_
  refine dv ((vcl0 (r1Mul_ok hx5) Try.call76).deep) ?_
  refine dv (vfa gF_R_0) ?_
  refine dv (vldp ga_bool) ?_
  refine dv (vfa gF_R_1) ?_
  refine dv (vldp ga_L) ?_
  refine dv (vfa gF_R_2) ?_
  refine dv (vldp ga_L) ?_
  refine dv ((vcl0 (r1Mul_ok hx6) Try.call76).deep) ?_
  refine dv (vfa gF_R_0) ?_
  refine dv (vldp ga_bool) ?_
  refine dv (vnt) ?_
  refine dv (VOK.tupd (vs := [.sl (L x7.1), .b x7.2]) (vcl0 (ref02_signed_ok hx7) Try.call105)) ?_
  refine dv (vmvd) ?_
  refine dv (vex) ?_
  refine dv (vex) ?_
  refine dz ?_
  refine ⟨?_, ?_, ?_⟩
  · intro k hk
    simp only [List.mem_cons, List.not_mem_nil, or_false] at hk
    subst hk
    exact ⟨_, _, _, rfl, rfl, rfl, rfl, rfl, rfl, vex⟩
  · intro om e hom hge
    cases hom
    exact ok_asd rfl ((hge 44 (fun k hk v hv => by
        simp only [List.mem_cons, List.not_mem_nil, or_false] at hk
        subst hk; exact (by decide : ¬ (some 45 = some 44)) (congrArg (Option.map Prod.fst) hv))).trans rfl) rfl ((congrArg isOwn (hge 7 (fun k hk v hv => by
        simp only [List.mem_cons, List.not_mem_nil, or_false] at hk
        subst hk; exact (by decide : ¬ (some 45 = some 7)) (congrArg (Option.map Prod.fst) hv)))).trans rfl) rfl ⟨rfl, rfl⟩
  refine asd ?_
  refine rn ?_
  refine .gh (Gh.keep [3, 4, 5, 6, 7] rfl) ?_
  refine .seq ?_
  refine .region ?_
  refine vk (vfa gF_R_2) ?_
  refine vk (vldp ga_L) ?_
  refine vk (vfa gF_R_2) ?_
  refine vk (vldp ga_L) ?_
  obtain ⟨x8, hx8, h⟩ := bnd h
  refine vk ((vcl0 (r1Mul_ok hx8) Try.call76).deep) ?_
  refine asd ?_
  refine rn ?_
  refine .gh (Gh.keep [3, 4, 5, 6, 7, 9] rfl) ?_
  refine .seq ?_
  refine .drawnF 4 [2, 3] [(10, .d (.sl (L a1.2.1)))] [] mixed (by kernel_rfl) rfl ?_
  refine dv (vfa gF_R_1) ?_
  refine dv (vldp ga_L) ?_
  refine dv (vfa gF_R_2) ?_
  refine dv (vldp ga_L) ?_
  refine dz ?_
  refine ⟨?_, ?_, ?_⟩
  · intro k hk
    simp only [List.mem_cons, List.not_mem_nil, or_false] at hk
    rcases hk with rfl | rfl
    · exact ⟨_, _, _, rfl, rfl, rfl, rfl, rfl, rfl, (vfa gF_R_2)⟩
    · exact ⟨_, _, _, rfl, rfl, rfl, rfl, rfl, rfl, (vldp ga_L)⟩
  · intro om e hom hge
    cases hom
    exact ok_asd rfl ((hge 52 (fun k hk v hv => by
        simp only [List.mem_cons, List.not_mem_nil, or_false] at hk
        rcases hk with rfl | rfl
        · exact (by decide : ¬ (some 53 = some 52)) (congrArg (Option.map Prod.fst) hv)
        · exact (by decide : ¬ (some 54 = some 52)) (congrArg (Option.map Prod.fst) hv))).trans rfl) rfl ((congrArg isOwn (hge 10 (fun k hk v hv => by
        simp only [List.mem_cons, List.not_mem_nil, or_false] at hk
        rcases hk with rfl | rfl
        · exact (by decide : ¬ (some 53 = some 10)) (congrArg (Option.map Prod.fst) hv)
        · exact (by decide : ¬ (some 54 = some 10)) (congrArg (Option.map Prod.fst) hv)))).trans rfl) rfl ⟨rfl, rfl⟩
  refine asd ?_
  refine rn ?_
  refine .gh (Gh.keep [3, 4, 5, 6, 7, 9, 10, 11] rfl) ?_
  refine .seq ?_
  refine .seq ?_
  refine .drawn 12 mixed (by kernel_rfl) ?_
  refine dv (vfa gF_R_1) ?_
  refine dv (vldp ga_L) ?_
  refine dv (vfa gF_R_2) ?_
  refine dv (vldp ga_L) ?_
  obtain ⟨x9, hx9, h⟩ := bnd h
  refine dv ((vcl0 (r1Mul_ok hx9) Try.call76).deep) ?_
  refine dv (vfa gF_R_1) ?_
  refine dv (vldp ga_L) ?_
  refine dv (vfa gF_R_2) ?_
  refine dv (vldp ga_L) ?_
  obtain ⟨x10, hx10, h⟩ := bnd h
  refine dv ((vcl0 (r1Mul_ok hx10) Try.call76).deep) ?_
  obtain ⟨x11, hx11, h⟩ := bnd h
  refine dv (vcl0 (r1Compare_ok hx11) Try.call68) ?_
  refine dv (vbi) ?_
  refine dz ?_
  refine rn ?_
  refine .gh (Gh.keep [3, 4, 5, 6, 7, 9, 10, 11, 66] rfl) ?_
  by_cases hc : x11 < 0
  · replace h := ite_t hc h
    refine cnt (decide_eq_true hc) ?_
    refine .drawnF 4 [2, 3] [(10, .d (.sl (L a2.2.1)))] [] mixed (by kernel_rfl) rfl ?_
    refine dv (vfa gF_R_1) ?_
    refine dv (vldp ga_L) ?_
    refine dv (vfa gF_R_2) ?_
    refine dv (vldp ga_L) ?_
    refine dz ?_
    refine ⟨?_, ?_, ?_⟩
    · intro k hk
      simp only [List.mem_cons, List.not_mem_nil, or_false] at hk
      rcases hk with rfl | rfl
      · exact ⟨_, _, _, rfl, rfl, rfl, rfl, rfl, rfl, (vfa gF_R_2)⟩
      · exact ⟨_, _, _, rfl, rfl, rfl, rfl, rfl, rfl, (vldp ga_L)⟩
    · intro om e hom hge
      cases hom
      exact ok_asd rfl ((hge 68 (fun k hk v hv => by
          simp only [List.mem_cons, List.not_mem_nil, or_false] at hk
          rcases hk with rfl | rfl
          · exact (by decide : ¬ (some 69 = some 68)) (congrArg (Option.map Prod.fst) hv)
          · exact (by decide : ¬ (some 70 = some 68)) (congrArg (Option.map Prod.fst) hv))).trans rfl) rfl ((congrArg isOwn (hge 10 (fun k hk v hv => by
          simp only [List.mem_cons, List.not_mem_nil, or_false] at hk
          rcases hk with rfl | rfl
          · exact (by decide : ¬ (some 69 = some 10)) (congrArg (Option.map Prod.fst) hv)
          · exact (by decide : ¬ (some 70 = some 10)) (congrArg (Option.map Prod.fst) hv)))).trans rfl) rfl ⟨rfl, rfl⟩
    refine asd ?_
    refine rn ?_
    refine .gh (Gh.keep [3, 4, 5, 6, 7, 9, 10, 11] rfl) ?_
    refine .seq ?_
    refine .region ?_
    refine vk (vmvd) ?_
    refine vk (vfa gF_R_2) ?_
    refine vk (vldp ga_L) ?_
    obtain ⟨x12, hx12, h⟩ := bnd h
    refine vk ((vcl0 (r1Mul_ok hx12) Try.call76).deep) ?_
    refine vk (vmvd) ?_
    obtain ⟨x13, hx13, h⟩ := bnd h
    refine vk ((vcl0 (r1Mul_ok hx13) Try.call76).deep) ?_
    refine asd ?_
    refine rn ?_
    refine .gh (Gh.keep [3, 4, 5, 6, 7, 9, 10, 12] rfl) ?_
    refine .seq ?_
    refine .region ?_
    refine vk (vfa gF_R_1) ?_
    refine vk (vldp ga_L) ?_
    refine vk (vmvd) ?_
    obtain ⟨x14, hx14, h⟩ := bnd h
    refine vk ((vcl0 (r1Mul_ok hx14) Try.call76).deep) ?_
    refine vk (vmvd) ?_
    obtain ⟨x15, hx15, h⟩ := bnd h
    refine vk ((vcl0 (r1Mul_ok hx15) Try.call76).deep) ?_
    refine asd ?_
    refine rn ?_
    refine .gh (Gh.keep [3, 4, 5, 6, 7, 10, 12, 13] rfl) ?_
    refine .seq ?_
    refine .seq ?_
    obtain ⟨z16, hz, h⟩ := bnd h
    refine AW.mr (σ := Unit) (fun _ => True) (fun _ => [(4, .d (.ptr [.b a1.1, .sl (L a1.2.1), .sl (L a1.2.2)])), (5, .d (.ptr [.b a2.1, .sl (L a2.2.1), .sl (L a2.2.2)])), (6, .d (.i .i64 0)), (115, .d (.b z16))]) (fun _ => []) ?_ ?_
    · skip
      refine .region ?_
      refine vk (vfa gF_R_0) ?_
      refine vk (vldp ga_bool) ?_
      refine vk (vnt) ?_
      by_cases hc : a0.1 = true
      · replace hz := ite_t hc hz
        have hb0 : (!a0.1) = false := (ntf hc)
        refine vk (VOK.lit (vmvd) hb0) ?_
        refine gf ?_
        refine gf ?_
        refine gf ?_
        refine gf ?_
        refine vk (vpkd) ?_
        refine vk (vmvd) ?_
        refine vk (vmvd) ?_
        refine vk (vlnE (L_length _) (L_sz _) gu_L) ?_
        refine vk (vbi) ?_
        by_cases hc : ((List.length x7.1 : Nat) : Int) = 0
        · replace hz := ite_t hc hz
          have hb1 : (decide (((List.length x7.1 : Nat) : Int) = 0)) = true := (decide_eq_true hc)
          refine vk (VOK.lit (vmvd) hb1) ?_
          refine vk (vmvd) ?_
          refine vk (vlnE (L_length _) (L_sz _) gu_L) ?_
          refine vk (vbi) ?_
          refine vk (vpkd) ?_
          refine vk (vpkd) ?_
          by_cases hc : ((List.length a2.2.1 : Nat) : Int) = 0
          · replace hz := ite_t hc hz
            have hb2 : (decide (((List.length a2.2.1 : Nat) : Int) = 0)) = true := (decide_eq_true hc)
            refine vk (VOK.lit (vmvd) hb2) ?_
            refine gf ?_
            refine gf ?_
            refine gfu ?_
            refine gf ?_
            refine gf ?_
            refine gf ?_
            refine gf ?_
            refine gfu ?_
            refine gf ?_
            refine gf ?_
            refine gf ?_
            refine gf ?_
            refine vk (vpkd) ?_
            refine RL.gh (Gh.keep [4, 5, 6, 115] rfl) ?_
            refine .nil ?_
            cases hz
            exact jr () trivial
          replace hz := ite_f hc hz
          have hb2 : (decide (((List.length a2.2.1 : Nat) : Int) = 0)) = false := (decide_eq_false hc)
          refine vk (VOK.lit (vmvd) hb2) ?_
          refine vk (vfa gF_R_0) ?_
          refine vk (vldp ga_bool) ?_
          by_cases hc : a0.1 = true
          · replace hz := ite_t hc hz
            have hb3 : a0.1 = true := hc
            refine vk (VOK.lit (vmvd) hb3) ?_
            refine vk (vmvd) ?_
            refine vk (vlnE (L_length _) (L_sz _) gu_L) ?_
            refine vk (vbi) ?_
            refine vk (vpkd) ?_
            by_cases hc : ((List.length x13 : Nat) : Int) = 0
            · replace hz := ite_t hc hz
              have hb4 : (decide (((List.length x13 : Nat) : Int) = 0)) = true := (decide_eq_true hc)
              refine vk (VOK.lit (vmvd) hb4) ?_
              refine vk (vmvd) ?_
              refine vk (vlnE (L_length _) (L_sz _) gu_L) ?_
              refine vk (vbi) ?_
              refine vk (vpkd) ?_
              refine vk (vpkd) ?_
              refine RL.gh (Gh.keep [4, 5, 6, 115] rfl) ?_
              refine .nil ?_
              cases hz
              exact jr () trivial
            replace hz := ite_f hc hz
            have hb4 : (decide (((List.length x13 : Nat) : Int) = 0)) = false := (decide_eq_false hc)
            refine vk (VOK.lit (vmvd) hb4) ?_
            refine gf ?_
            refine gf ?_
            refine gf ?_
            refine vk (vpkd) ?_
            refine vk (vpkd) ?_
            refine RL.gh (Gh.keep [4, 5, 6, 115] rfl) ?_
            refine .nil ?_
            cases hz
            exact jr () trivial
          replace hz := ite_f hc hz
          have hb3 : a0.1 = false := (bf hc)
          refine vk (VOK.lit (vmvd) hb3) ?_
          refine gf ?_
          refine gf ?_
          refine gf ?_
          refine vk (vpkd) ?_
          refine vk (vmvd) ?_
          refine gf ?_
          refine gf ?_
          refine gf ?_
          refine vk (vpkd) ?_
          refine vk (vpkd) ?_
          refine RL.gh (Gh.keep [4, 5, 6, 115] rfl) ?_
          refine .nil ?_
          cases hz
          exact jr () trivial
        replace hz := ite_f hc hz
        have hb1 : (decide (((List.length x7.1 : Nat) : Int) = 0)) = false := (decide_eq_false hc)
        refine vk (VOK.lit (vmvd) hb1) ?_
        refine gf ?_
        refine gf ?_
        refine gf ?_
        refine vk (vpkd) ?_
        refine vk (vpkd) ?_
        refine vk (vmvd) ?_
        refine vk (vfa gF_R_0) ?_
        refine vk (vldp ga_bool) ?_
        by_cases hc : a0.1 = true
        · replace hz := ite_t hc hz
          have hb2 : a0.1 = true := hc
          refine vk (VOK.lit (vmvd) hb2) ?_
          refine vk (vmvd) ?_
          refine vk (vlnE (L_length _) (L_sz _) gu_L) ?_
          refine vk (vbi) ?_
          refine vk (vpkd) ?_
          by_cases hc : ((List.length x13 : Nat) : Int) = 0
          · replace hz := ite_t hc hz
            have hb3 : (decide (((List.length x13 : Nat) : Int) = 0)) = true := (decide_eq_true hc)
            refine vk (VOK.lit (vmvd) hb3) ?_
            refine vk (vmvd) ?_
            refine vk (vlnE (L_length _) (L_sz _) gu_L) ?_
            refine vk (vbi) ?_
            refine vk (vpkd) ?_
            refine vk (vpkd) ?_
            refine RL.gh (Gh.keep [4, 5, 6, 115] rfl) ?_
            refine .nil ?_
            cases hz
            exact jr () trivial
          replace hz := ite_f hc hz
          have hb3 : (decide (((List.length x13 : Nat) : Int) = 0)) = false := (decide_eq_false hc)
          refine vk (VOK.lit (vmvd) hb3) ?_
          refine gf ?_
          refine gf ?_
          refine gf ?_
          refine vk (vpkd) ?_
          refine vk (vpkd) ?_
          refine RL.gh (Gh.keep [4, 5, 6, 115] rfl) ?_
          refine .nil ?_
          cases hz
          exact jr () trivial
        replace hz := ite_f hc hz
        have hb2 : a0.1 = false := (bf hc)
        refine vk (VOK.lit (vmvd) hb2) ?_
        refine gf ?_
        refine gf ?_
        refine gf ?_
        refine vk (vpkd) ?_
        refine vk (vmvd) ?_
        refine gf ?_
        refine gf ?_
        refine gf ?_
        refine vk (vpkd) ?_
        refine vk (vpkd) ?_
        refine RL.gh (Gh.keep [4, 5, 6, 115] rfl) ?_
        refine .nil ?_
        cases hz
        exact jr () trivial
      replace hz := ite_f hc hz
      have hb0 : (!a0.1) = true := (ntt (bf hc))
      refine vk (VOK.lit (vmvd) hb0) ?_
      refine vk (vmvd) ?_
      refine vk (vmvd) ?_
      obtain ⟨x17, hx17, hz⟩ := bnd hz
      refine vk (vcl0 (r1Compare_ok hx17) Try.call68) ?_
      refine vk (vbi) ?_
      refine vk (vpkd) ?_
      by_cases hc : x17 ≤ 0
      · replace hz := ite_t hc hz
        have hb1 : (decide (x17 ≤ 0)) = true := (decide_eq_true hc)
        refine vk (VOK.lit (vmvd) hb1) ?_
        refine gf ?_
        refine gf ?_
        refine gf ?_
        refine gfu ?_
        refine gf ?_
        refine gf ?_
        refine gf ?_
        refine gf ?_
        refine vk (vpkd) ?_
        refine vk (vmvd) ?_
        refine gf ?_
        refine gf ?_
        refine gfu ?_
        refine gf ?_
        refine gf ?_
        refine gf ?_
        refine gf ?_
        refine gfu ?_
        refine gf ?_
        refine gf ?_
        refine gf ?_
        refine gf ?_
        refine vk (vpkd) ?_
        refine RL.gh (Gh.keep [4, 5, 6, 115] rfl) ?_
        refine .nil ?_
        cases hz
        exact jr () trivial
      replace hz := ite_f hc hz
      have hb1 : (decide (x17 ≤ 0)) = false := (decide_eq_false hc)
      refine vk (VOK.lit (vmvd) hb1) ?_
      refine vk (vmvd) ?_
      refine vk (vlnE (L_length _) (L_sz _) gu_L) ?_
      refine vk (vbi) ?_
      by_cases hc : ((List.length x7.1 : Nat) : Int) = 0
      · replace hz := ite_t hc hz
        have hb2 : (decide (((List.length x7.1 : Nat) : Int) = 0)) = true := (decide_eq_true hc)
        refine vk (VOK.lit (vmvd) hb2) ?_
        refine vk (vmvd) ?_
        refine vk (vlnE (L_length _) (L_sz _) gu_L) ?_
        refine vk (vbi) ?_
        refine vk (vpkd) ?_
        refine vk (vpkd) ?_
        by_cases hc : ((List.length a2.2.1 : Nat) : Int) = 0
        · replace hz := ite_t hc hz
          have hb3 : (decide (((List.length a2.2.1 : Nat) : Int) = 0)) = true := (decide_eq_true hc)
          refine vk (VOK.lit (vmvd) hb3) ?_
          refine gf ?_
          refine gf ?_
          refine gfu ?_
          refine gf ?_
          refine gf ?_
          refine gf ?_
          refine gf ?_
          refine gfu ?_
          refine gf ?_
          refine gf ?_
          refine gf ?_
          refine gf ?_
          refine vk (vpkd) ?_
          refine RL.gh (Gh.keep [4, 5, 6, 115] rfl) ?_
          refine .nil ?_
          cases hz
          exact jr () trivial
        replace hz := ite_f hc hz
        have hb3 : (decide (((List.length a2.2.1 : Nat) : Int) = 0)) = false := (decide_eq_false hc)
        refine vk (VOK.lit (vmvd) hb3) ?_
        refine vk (vfa gF_R_0) ?_
        refine vk (vldp ga_bool) ?_
        by_cases hc : a0.1 = true
        · replace hz := ite_t hc hz
          have hb4 : a0.1 = true := hc
          refine vk (VOK.lit (vmvd) hb4) ?_
          refine vk (vmvd) ?_
          refine vk (vlnE (L_length _) (L_sz _) gu_L) ?_
          refine vk (vbi) ?_
          refine vk (vpkd) ?_
          by_cases hc : ((List.length x13 : Nat) : Int) = 0
          · replace hz := ite_t hc hz
            have hb5 : (decide (((List.length x13 : Nat) : Int) = 0)) = true := (decide_eq_true hc)
            refine vk (VOK.lit (vmvd) hb5) ?_
            refine vk (vmvd) ?_
            refine vk (vlnE (L_length _) (L_sz _) gu_L) ?_
            refine vk (vbi) ?_
            refine vk (vpkd) ?_
            refine vk (vpkd) ?_
            refine RL.gh (Gh.keep [4, 5, 6, 115] rfl) ?_
            refine .nil ?_
            cases hz
            exact jr () trivial
          replace hz := ite_f hc hz
          have hb5 : (decide (((List.length x13 : Nat) : Int) = 0)) = false := (decide_eq_false hc)
          refine vk (VOK.lit (vmvd) hb5) ?_
          refine gf ?_
          refine gf ?_
          refine gf ?_
          refine vk (vpkd) ?_
          refine vk (vpkd) ?_
          refine RL.gh (Gh.keep [4, 5, 6, 115] rfl) ?_
          refine .nil ?_
          cases hz
          exact jr () trivial
        replace hz := ite_f hc hz
        have hb4 : a0.1 = false := (bf hc)
        refine vk (VOK.lit (vmvd) hb4) ?_
        refine gf ?_
        refine gf ?_
        refine gf ?_
        refine vk (vpkd) ?_
        refine vk (vmvd) ?_
        refine gf ?_
        refine gf ?_
        refine gf ?_
        refine vk (vpkd) ?_
        refine vk (vpkd) ?_
        refine RL.gh (Gh.keep [4, 5, 6, 115] rfl) ?_
        refine .nil ?_
        cases hz
        exact jr () trivial
      replace hz := ite_f hc hz
      have hb2 : (decide (((List.length x7.1 : Nat) : Int) = 0)) = false := (decide_eq_false hc)
      refine vk (VOK.lit (vmvd) hb2) ?_
      refine gf ?_
      refine gf ?_
      refine gf ?_
      refine vk (vpkd) ?_
      refine vk (vpkd) ?_
      refine vk (vmvd) ?_
      refine vk (vfa gF_R_0) ?_
      refine vk (vldp ga_bool) ?_
      by_cases hc : a0.1 = true
      · replace hz := ite_t hc hz
        have hb3 : a0.1 = true := hc
        refine vk (VOK.lit (vmvd) hb3) ?_
        refine vk (vmvd) ?_
        refine vk (vlnE (L_length _) (L_sz _) gu_L) ?_
        refine vk (vbi) ?_
        refine vk (vpkd) ?_
        by_cases hc : ((List.length x13 : Nat) : Int) = 0
        · replace hz := ite_t hc hz
          have hb4 : (decide (((List.length x13 : Nat) : Int) = 0)) = true := (decide_eq_true hc)
          refine vk (VOK.lit (vmvd) hb4) ?_
          refine vk (vmvd) ?_
          refine vk (vlnE (L_length _) (L_sz _) gu_L) ?_
          refine vk (vbi) ?_
          refine vk (vpkd) ?_
          refine vk (vpkd) ?_
          refine RL.gh (Gh.keep [4, 5, 6, 115] rfl) ?_
          refine .nil ?_
          cases hz
          exact jr () trivial
        replace hz := ite_f hc hz
        have hb4 : (decide (((List.length x13 : Nat) : Int) = 0)) = false := (decide_eq_false hc)
        refine vk (VOK.lit (vmvd) hb4) ?_
        refine gf ?_
        refine gf ?_
        refine gf ?_
        refine vk (vpkd) ?_
        refine vk (vpkd) ?_
        refine RL.gh (Gh.keep [4, 5, 6, 115] rfl) ?_
        refine .nil ?_
        cases hz
        exact jr () trivial
      replace hz := ite_f hc hz
      have hb3 : a0.1 = false := (bf hc)
      refine vk (VOK.lit (vmvd) hb3) ?_
      refine gf ?_
      refine gf ?_
      refine gf ?_
      refine vk (vpkd) ?_
      refine vk (vmvd) ?_
      refine gf ?_
      refine gf ?_
      refine gf ?_
      refine vk (vpkd) ?_
      refine vk (vpkd) ?_
      refine RL.gh (Gh.keep [4, 5, 6, 115] rfl) ?_
      refine .nil ?_
      cases hz
      exact jr () trivial
    rintro _ _
    by_cases hc : z16 = true
    · replace h := ite_t hc h
      refine cnt hc ?_
      refine .seq ?_
      refine .region ?_
      refine asd ?_
      refine rn ?_
      refine .gh (Gh.keep [4, 5, 6] rfl) ?_
      refine .ret ?_
      cases h
      exact ⟨rfl, rfl⟩
    replace h := ite_f hc h
    refine cnf (bf hc) ?_
    refine .skip ?_
    show AW _ _ _ _ _ _
    refine .seq ?_
    refine .region ?_
    refine vk (vlda gA_R gS_R) ?_
    refine vk (vlda gA_R gS_R) ?_
    obtain ⟨x18, hx18, h⟩ := bnd h
    refine vk (vcl0 (ref02_Compare_ok hx18) Try.call47) ?_
    refine asd ?_
    refine rn ?_
    refine .gh (Gh.keep [6] rfl) ?_
    refine .ret ?_
    cases h
    exact ⟨rfl, rfl⟩
  replace h := ite_f hc h
  refine cnf (decide_eq_false hc) ?_
  refine .skip ?_
  show AW _ _ _ _ _ _
  refine .seq ?_
  refine .region ?_
  refine vk (vmvd) ?_
  refine vk (vfa gF_R_2) ?_
  refine vk (vldp ga_L) ?_
  obtain ⟨x19, hx19, h⟩ := bnd h
  refine vk ((vcl0 (r1Mul_ok hx19) Try.call76).deep) ?_
  refine vk (vmvd) ?_
  obtain ⟨x20, hx20, h⟩ := bnd h
  refine vk ((vcl0 (r1Mul_ok hx20) Try.call76).deep) ?_
  refine asd ?_
  refine rn ?_
  refine .gh (Gh.keep [3, 4, 5, 6, 7, 9, 10, 12] rfl) ?_
  refine .seq ?_
  refine .region ?_
  refine vk (vfa gF_R_1) ?_
  refine vk (vldp ga_L) ?_
  refine vk (vmvd) ?_
  obtain ⟨x21, hx21, h⟩ := bnd h
  refine vk ((vcl0 (r1Mul_ok hx21) Try.call76).deep) ?_
  refine vk (vmvd) ?_
  obtain ⟨x22, hx22, h⟩ := bnd h
  refine vk ((vcl0 (r1Mul_ok hx22) Try.call76).deep) ?_
  refine asd ?_
  refine rn ?_
  refine .gh (Gh.keep [3, 4, 5, 6, 7, 10, 12, 13] rfl) ?_
  refine .seq ?_
  refine .seq ?_
  obtain ⟨z23, hz, h⟩ := bnd h
  refine AW.mr (σ := Unit) (fun _ => True) (fun _ => [(4, .d (.ptr [.b a1.1, .sl (L a1.2.1), .sl (L a1.2.2)])), (5, .d (.ptr [.b a2.1, .sl (L a2.2.1), .sl (L a2.2.2)])), (6, .d (.i .i64 0)), (115, .d (.b z23))]) (fun _ => []) ?_ ?_
  · skip
    refine .region ?_
    refine vk (vfa gF_R_0) ?_
    refine vk (vldp ga_bool) ?_
    refine vk (vnt) ?_
    by_cases hc : a0.1 = true
    · replace hz := ite_t hc hz
      have hb0 : (!a0.1) = false := (ntf hc)
      refine vk (VOK.lit (vmvd) hb0) ?_
      refine gf ?_
      refine gf ?_
      refine gf ?_
      refine gf ?_
      refine vk (vpkd) ?_
      refine vk (vmvd) ?_
      refine vk (vmvd) ?_
      refine vk (vlnE (L_length _) (L_sz _) gu_L) ?_
      refine vk (vbi) ?_
      by_cases hc : ((List.length x7.1 : Nat) : Int) = 0
      · replace hz := ite_t hc hz
        have hb1 : (decide (((List.length x7.1 : Nat) : Int) = 0)) = true := (decide_eq_true hc)
        refine vk (VOK.lit (vmvd) hb1) ?_
        refine vk (vmvd) ?_
        refine vk (vlnE (L_length _) (L_sz _) gu_L) ?_
        refine vk (vbi) ?_
        refine vk (vpkd) ?_
        refine vk (vpkd) ?_
        by_cases hc : ((List.length a1.2.1 : Nat) : Int) = 0
        · replace hz := ite_t hc hz
          have hb2 : (decide (((List.length a1.2.1 : Nat) : Int) = 0)) = true := (decide_eq_true hc)
          refine vk (VOK.lit (vmvd) hb2) ?_
          refine gf ?_
          refine gf ?_
          refine gfu ?_
          refine gf ?_
          refine gf ?_
          refine gf ?_
          refine gf ?_
          refine gfu ?_
          refine gf ?_
          refine gf ?_
          refine gf ?_
          refine gf ?_
          refine vk (vpkd) ?_
          refine RL.gh (Gh.keep [4, 5, 6, 115] rfl) ?_
          refine .nil ?_
          cases hz
          exact jr () trivial
        replace hz := ite_f hc hz
        have hb2 : (decide (((List.length a1.2.1 : Nat) : Int) = 0)) = false := (decide_eq_false hc)
        refine vk (VOK.lit (vmvd) hb2) ?_
        refine vk (vfa gF_R_0) ?_
        refine vk (vldp ga_bool) ?_
        by_cases hc : a0.1 = true
        · replace hz := ite_t hc hz
          have hb3 : a0.1 = true := hc
          refine vk (VOK.lit (vmvd) hb3) ?_
          refine vk (vmvd) ?_
          refine vk (vlnE (L_length _) (L_sz _) gu_L) ?_
          refine vk (vbi) ?_
          refine vk (vpkd) ?_
          by_cases hc : ((List.length x20 : Nat) : Int) = 0
          · replace hz := ite_t hc hz
            have hb4 : (decide (((List.length x20 : Nat) : Int) = 0)) = true := (decide_eq_true hc)
            refine vk (VOK.lit (vmvd) hb4) ?_
            refine vk (vmvd) ?_
            refine vk (vlnE (L_length _) (L_sz _) gu_L) ?_
            refine vk (vbi) ?_
            refine vk (vpkd) ?_
            refine vk (vpkd) ?_
            refine RL.gh (Gh.keep [4, 5, 6, 115] rfl) ?_
            refine .nil ?_
            cases hz
            exact jr () trivial
          replace hz := ite_f hc hz
          have hb4 : (decide (((List.length x20 : Nat) : Int) = 0)) = false := (decide_eq_false hc)
          refine vk (VOK.lit (vmvd) hb4) ?_
          refine gf ?_
          refine gf ?_
          refine gf ?_
          refine vk (vpkd) ?_
          refine vk (vpkd) ?_
          refine RL.gh (Gh.keep [4, 5, 6, 115] rfl) ?_
          refine .nil ?_
          cases hz
          exact jr () trivial
        replace hz := ite_f hc hz
        have hb3 : a0.1 = false := (bf hc)
        refine vk (VOK.lit (vmvd) hb3) ?_
        refine gf ?_
        refine gf ?_
        refine gf ?_
        refine vk (vpkd) ?_
        refine vk (vmvd) ?_
        refine gf ?_
        refine gf ?_
        refine gf ?_
        refine vk (vpkd) ?_
        refine vk (vpkd) ?_
        refine RL.gh (Gh.keep [4, 5, 6, 115] rfl) ?_
        refine .nil ?_
        cases hz
        exact jr () trivial
      replace hz := ite_f hc hz
      have hb1 : (decide (((List.length x7.1 : Nat) : Int) = 0)) = false := (decide_eq_false hc)
      refine vk (VOK.lit (vmvd) hb1) ?_
      refine gf ?_
      refine gf ?_
      refine gf ?_
      refine vk (vpkd) ?_
      refine vk (vpkd) ?_
      refine vk (vmvd) ?_
      refine vk (vfa gF_R_0) ?_
      refine vk (vldp ga_bool) ?_
      by_cases hc : a0.1 = true
      · replace hz := ite_t hc hz
        have hb2 : a0.1 = true := hc
        refine vk (VOK.lit (vmvd) hb2) ?_
        refine vk (vmvd) ?_
        refine vk (vlnE (L_length _) (L_sz _) gu_L) ?_
        refine vk (vbi) ?_
        refine vk (vpkd) ?_
        by_cases hc : ((List.length x20 : Nat) : Int) = 0
        · replace hz := ite_t hc hz
          have hb3 : (decide (((List.length x20 : Nat) : Int) = 0)) = true := (decide_eq_true hc)
          refine vk (VOK.lit (vmvd) hb3) ?_
          refine vk (vmvd) ?_
          refine vk (vlnE (L_length _) (L_sz _) gu_L) ?_
          refine vk (vbi) ?_
          refine vk (vpkd) ?_
          refine vk (vpkd) ?_
          refine RL.gh (Gh.keep [4, 5, 6, 115] rfl) ?_
          refine .nil ?_
          cases hz
          exact jr () trivial
        replace hz := ite_f hc hz
        have hb3 : (decide (((List.length x20 : Nat) : Int) = 0)) = false := (decide_eq_false hc)
        refine vk (VOK.lit (vmvd) hb3) ?_
        refine gf ?_
        refine gf ?_
        refine gf ?_
        refine vk (vpkd) ?_
        refine vk (vpkd) ?_
        refine RL.gh (Gh.keep [4, 5, 6, 115] rfl) ?_
        refine .nil ?_
        cases hz
        exact jr () trivial
      replace hz := ite_f hc hz
      have hb2 : a0.1 = false := (bf hc)
      refine vk (VOK.lit (vmvd) hb2) ?_
      refine gf ?_
      refine gf ?_
      refine gf ?_
      refine vk (vpkd) ?_
      refine vk (vmvd) ?_
      refine gf ?_
      refine gf ?_
      refine gf ?_
      refine vk (vpkd) ?_
      refine vk (vpkd) ?_
      refine RL.gh (Gh.keep [4, 5, 6, 115] rfl) ?_
      refine .nil ?_
      cases hz
      exact jr () trivial
    replace hz := ite_f hc hz
    have hb0 : (!a0.1) = true := (ntt (bf hc))
    refine vk (VOK.lit (vmvd) hb0) ?_
    refine vk (vmvd) ?_
    refine vk (vmvd) ?_
    obtain ⟨x24, hx24, hz⟩ := bnd hz
    refine vk (vcl0 (r1Compare_ok hx24) Try.call68) ?_
    refine vk (vbi) ?_
    refine vk (vpkd) ?_
    by_cases hc : x24 ≤ 0
    · replace hz := ite_t hc hz
      have hb1 : (decide (x24 ≤ 0)) = true := (decide_eq_true hc)
      refine vk (VOK.lit (vmvd) hb1) ?_
      refine gf ?_
      refine gf ?_
      refine gf ?_
      refine gfu ?_
      refine gf ?_
      refine gf ?_
      refine gf ?_
      refine gf ?_
      refine vk (vpkd) ?_
      refine vk (vmvd) ?_
      refine gf ?_
      refine gf ?_
      refine gfu ?_
      refine gf ?_
      refine gf ?_
      refine gf ?_
      refine gf ?_
      refine gfu ?_
      refine gf ?_
      refine gf ?_
      refine gf ?_
      refine gf ?_
      refine vk (vpkd) ?_
      refine RL.gh (Gh.keep [4, 5, 6, 115] rfl) ?_
      refine .nil ?_
      cases hz
      exact jr () trivial
    replace hz := ite_f hc hz
    have hb1 : (decide (x24 ≤ 0)) = false := (decide_eq_false hc)
    refine vk (VOK.lit (vmvd) hb1) ?_
    refine vk (vmvd) ?_
    refine vk (vlnE (L_length _) (L_sz _) gu_L) ?_
    refine vk (vbi) ?_
    by_cases hc : ((List.length x7.1 : Nat) : Int) = 0
    · replace hz := ite_t hc hz
      have hb2 : (decide (((List.length x7.1 : Nat) : Int) = 0)) = true := (decide_eq_true hc)
      refine vk (VOK.lit (vmvd) hb2) ?_
      refine vk (vmvd) ?_
      refine vk (vlnE (L_length _) (L_sz _) gu_L) ?_
      refine vk (vbi) ?_
      refine vk (vpkd) ?_
      refine vk (vpkd) ?_
      by_cases hc : ((List.length a1.2.1 : Nat) : Int) = 0
      · replace hz := ite_t hc hz
        have hb3 : (decide (((List.length a1.2.1 : Nat) : Int) = 0)) = true := (decide_eq_true hc)
        refine vk (VOK.lit (vmvd) hb3) ?_
        refine gf ?_
        refine gf ?_
        refine gfu ?_
        refine gf ?_
        refine gf ?_
        refine gf ?_
        refine gf ?_
        refine gfu ?_
        refine gf ?_
        refine gf ?_
        refine gf ?_
        refine gf ?_
        refine vk (vpkd) ?_
        refine RL.gh (Gh.keep [4, 5, 6, 115] rfl) ?_
        refine .nil ?_
        cases hz
        exact jr () trivial
      replace hz := ite_f hc hz
      have hb3 : (decide (((List.length a1.2.1 : Nat) : Int) = 0)) = false := (decide_eq_false hc)
      refine vk (VOK.lit (vmvd) hb3) ?_
      refine vk (vfa gF_R_0) ?_
      refine vk (vldp ga_bool) ?_
      by_cases hc : a0.1 = true
      · replace hz := ite_t hc hz
        have hb4 : a0.1 = true := hc
        refine vk (VOK.lit (vmvd) hb4) ?_
        refine vk (vmvd) ?_
        refine vk (vlnE (L_length _) (L_sz _) gu_L) ?_
        refine vk (vbi) ?_
        refine vk (vpkd) ?_
        by_cases hc : ((List.length x20 : Nat) : Int) = 0
        · replace hz := ite_t hc hz
          have hb5 : (decide (((List.length x20 : Nat) : Int) = 0)) = true := (decide_eq_true hc)
          refine vk (VOK.lit (vmvd) hb5) ?_
          refine vk (vmvd) ?_
          refine vk (vlnE (L_length _) (L_sz _) gu_L) ?_
          refine vk (vbi) ?_
          refine vk (vpkd) ?_
          refine vk (vpkd) ?_
          refine RL.gh (Gh.keep [4, 5, 6, 115] rfl) ?_
          refine .nil ?_
          cases hz
          exact jr () trivial
        replace hz := ite_f hc hz
        have hb5 : (decide (((List.length x20 : Nat) : Int) = 0)) = false := (decide_eq_false hc)
        refine vk (VOK.lit (vmvd) hb5) ?_
        refine gf ?_
        refine gf ?_
        refine gf ?_
        refine vk (vpkd) ?_
        refine vk (vpkd) ?_
        refine RL.gh (Gh.keep [4, 5, 6, 115] rfl) ?_
        refine .nil ?_
        cases hz
        exact jr () trivial
      replace hz := ite_f hc hz
      have hb4 : a0.1 = false := (bf hc)
      refine vk (VOK.lit (vmvd) hb4) ?_
      refine gf ?_
      refine gf ?_
      refine gf ?_
      refine vk (vpkd) ?_
      refine vk (vmvd) ?_
      refine gf ?_
      refine gf ?_
      refine gf ?_
      refine vk (vpkd) ?_
      refine vk (vpkd) ?_
      refine RL.gh (Gh.keep [4, 5, 6, 115] rfl) ?_
      refine .nil ?_
      cases hz
      exact jr () trivial
    replace hz := ite_f hc hz
    have hb2 : (decide (((List.length x7.1 : Nat) : Int) = 0)) = false := (decide_eq_false hc)
    refine vk (VOK.lit (vmvd) hb2) ?_
    refine gf ?_
    refine gf ?_
    refine gf ?_
    refine vk (vpkd) ?_
    refine vk (vpkd) ?_
    refine vk (vmvd) ?_
    refine vk (vfa gF_R_0) ?_
    refine vk (vldp ga_bool) ?_
    by_cases hc : a0.1 = true
    · replace hz := ite_t hc hz
      have hb3 : a0.1 = true := hc
      refine vk (VOK.lit (vmvd) hb3) ?_
      refine vk (vmvd) ?_
      refine vk (vlnE (L_length _) (L_sz _) gu_L) ?_
      refine vk (vbi) ?_
      refine vk (vpkd) ?_
      by_cases hc : ((List.length x20 : Nat) : Int) = 0
      · replace hz := ite_t hc hz
        have hb4 : (decide (((List.length x20 : Nat) : Int) = 0)) = true := (decide_eq_true hc)
        refine vk (VOK.lit (vmvd) hb4) ?_
        refine vk (vmvd) ?_
        refine vk (vlnE (L_length _) (L_sz _) gu_L) ?_
        refine vk (vbi) ?_
        refine vk (vpkd) ?_
        refine vk (vpkd) ?_
        refine RL.gh (Gh.keep [4, 5, 6, 115] rfl) ?_
        refine .nil ?_
        cases hz
        exact jr () trivial
      replace hz := ite_f hc hz
      have hb4 : (decide (((List.length x20 : Nat) : Int) = 0)) = false := (decide_eq_false hc)
      refine vk (VOK.lit (vmvd) hb4) ?_
      refine gf ?_
      refine gf ?_
      refine gf ?_
      refine vk (vpkd) ?_
      refine vk (vpkd) ?_
      refine RL.gh (Gh.keep [4, 5, 6, 115] rfl) ?_
      refine .nil ?_
      cases hz
      exact jr () trivial
    replace hz := ite_f hc hz
    have hb3 : a0.1 = false := (bf hc)
    refine vk (VOK.lit (vmvd) hb3) ?_
    refine gf ?_
    refine gf ?_
    refine gf ?_
    refine vk (vpkd) ?_
    refine vk (vmvd) ?_
    refine gf ?_
    refine gf ?_
    refine gf ?_
    refine vk (vpkd) ?_
    refine vk (vpkd) ?_
    refine RL.gh (Gh.keep [4, 5, 6, 115] rfl) ?_
    refine .nil ?_
    cases hz
    exact jr () trivial
  rintro _ _
  by_cases hc : z23 = true
  · replace h := ite_t hc h
    refine cnt hc ?_
    refine .seq ?_
    refine .region ?_
    refine asd ?_
    refine rn ?_
    refine .gh (Gh.keep [4, 5, 6] rfl) ?_
    refine .ret ?_
    cases h
    exact ⟨rfl, rfl⟩
  replace h := ite_f hc h
  refine cnf (bf hc) ?_
  refine .skip ?_
  show AW _ _ _ _ _ _
  refine .seq ?_
  refine .region ?_
  refine vk (vlda gA_R gS_R) ?_
  refine vk (vlda gA_R gS_R) ?_
  obtain ⟨x25, hx25, h⟩ := bnd h
  refine vk (vcl0 (ref02_Compare_ok hx25) Try.call47) ?_
  refine asd ?_
  refine rn ?_
  refine .gh (Gh.keep [6] rfl) ?_
  refine .ret ?_
  cases h
  exact ⟨rfl, rfl⟩
end Go.FL
