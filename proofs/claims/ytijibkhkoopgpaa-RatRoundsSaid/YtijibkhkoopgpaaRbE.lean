/-
  Part 5 of the base of the proofs: a logic of our own over the calculus, the contracts of the functions
-/
import Derived.Test.YtijibkhkoopgpaaRbD
set_option linter.unusedVariables false
/-
  GP: glyphref02: sums, products, rounding.
-/
namespace Go.FL
open Go Go.Proofs

def ref02_OfInt (a0 : Int) : Option (RT) := (if a0 < 0 then ((r1Of (IntKind.wrap .u64 (0 - (IntKind.wrap .u64 a0)))).bind fun x1 => (ref2One.bind fun x2 => (some (((decide (a0 < 0)), x1, x2))))) else ((r1Of (IntKind.wrap .u64 a0)).bind fun x3 => (ref2One.bind fun x4 => (some (((decide (a0 < 0)), x3, x4))))))
theorem ref02_OfInt_ok {a0 : Int} {r : RT} (h : ref02_OfInt a0 = some r) :
    Fn Try.prog 29 [.i .i64 a0] (.d (.ag [.b r.1, .sl (L r.2.1), .sl (L r.2.2)])) := by
  unfold ref02_OfInt at h
  refine Fn.ofC (rs := [.cell 2 25]) (nt := 16) Try.func29 rfl rfl rfl (by simp) rfl ?_
  refine .seq ?_
  refine .region ?_
  refine vk (van (zero_of gI_R) gZ_R) ?_
  refine rn ?_
  refine .gh (Gh.keep [0, 2] rfl) ?_
  refine .seq ?_
  refine .region ?_
  refine vk (vmvd) ?_
  refine vk (vcv gk_int gk_uint64) ?_
  refine asd ?_
  refine rn ?_
  refine .gh (Gh.keep [0, 2, 3] rfl) ?_
  refine .seq ?_
  refine .seq ?_
  refine .region ?_
  refine vk (vmvd) ?_
  refine vk (vbi) ?_
  refine rn ?_
  refine .gh (Gh.keep [0, 2, 3, 7] rfl) ?_
  by_cases hc : a0 < 0
  · replace h := ite_t hc h
    refine cnt (decide_eq_true hc) ?_
    refine .region ?_
    refine vk (vmvd) ?_
    refine vk (vng) ?_
    refine asd ?_
    refine rn ?_
    refine .gh (Gh.keep [0, 2, 3] rfl) ?_
    refine .seq ?_
    refine .region ?_
    refine vk (vmvd) ?_
    refine vk (vbi) ?_
    refine vk (vmvd) ?_
    obtain ⟨x1, hx1, h⟩ := bnd h
    refine vk ((vcl0 (r1Of_ok hx1) Try.call85).deep) ?_
    obtain ⟨x2, hx2, h⟩ := bnd h
    refine vk ((vcl0 (ref2One_ok hx2) Try.call69).deep) ?_
    refine vk (vbd gP_R gI_R gZ_R) ?_
    refine stn ?_ gS_R (by decide)
    refine rn ?_
    refine .gh (Gh.keep [2] rfl) ?_
    refine .ret ?_
    cases h
    exact ⟨_, ⟨.inr rfl, gA_R, gS_R, (by decide : (0 : Nat) < 3)⟩, rfl⟩
  replace h := ite_f hc h
  refine cnf (decide_eq_false hc) ?_
  refine .skip ?_
  show AW _ _ _ _ _ _
  refine .seq ?_
  refine .region ?_
  refine vk (vmvd) ?_
  refine vk (vbi) ?_
  refine vk (vmvd) ?_
  obtain ⟨x3, hx3, h⟩ := bnd h
  refine vk ((vcl0 (r1Of_ok hx3) Try.call85).deep) ?_
  obtain ⟨x4, hx4, h⟩ := bnd h
  refine vk ((vcl0 (ref2One_ok hx4) Try.call69).deep) ?_
  refine vk (vbd gP_R gI_R gZ_R) ?_
  refine stn ?_ gS_R (by decide)
  refine rn ?_
  refine .gh (Gh.keep [2] rfl) ?_
  refine .ret ?_
  cases h
  exact ⟨_, ⟨.inr rfl, gA_R, gS_R, (by decide : (0 : Nat) < 3)⟩, rfl⟩

def ref02_copied (a0 : RT) : Option (RT) := ((r1Trim a0.2.1).bind fun x1 => ((r1Trim a0.2.2).bind fun x2 => (some ((a0.1, x1, x2)))))
theorem ref02_copied_ok {a0 : RT} {r : RT} (h : ref02_copied a0 = some r) :
    Fn Try.prog 107 [.ag [.b a0.1, .sl (L a0.2.1), .sl (L a0.2.2)]] (.d (.ag [.b r.1, .sl (L r.2.1), .sl (L r.2.2)])) := by
  unfold ref02_copied at h
  refine Fn.ofC (rs := [.cell 2 25]) (nt := 12) Try.func107 rfl rfl rfl (by simp) rfl ?_
  refine .seq ?_
  refine .region ?_
  refine vk (vbx) ?_
  refine vk (van (zero_of gI_R) gZ_R) ?_
  refine rn ?_
  refine .gh (Gh.keep [1, 2] rfl) ?_
  refine .seq ?_
  refine .drawn 9 mixed (by kernel_rfl) ?_
  refine dv (vfa gF_R_0) ?_
  refine dv (vldp ga_bool) ?_
  refine dv (vfa gF_R_1) ?_
  refine dv (vldp ga_L) ?_
  obtain ⟨x1, hx1, h⟩ := bnd h
  refine dv ((vcl0 (r1Trim_ok hx1) Try.call61).deep) ?_
  refine dv (vfa gF_R_2) ?_
  refine dv (vldp ga_L) ?_
  obtain ⟨x2, hx2, h⟩ := bnd h
  refine dv ((vcl0 (r1Trim_ok hx2) Try.call61).deep) ?_
  refine dv (vbd gP_R gI_R gZ_R) ?_
  refine dz ?_
  refine stn ?_ gS_R (by decide)
  refine rn ?_
  refine .gh (Gh.keep [2] rfl) ?_
  refine .ret ?_
  cases h
  exact ⟨_, ⟨.inr rfl, gA_R, gS_R, (by decide : (0 : Nat) < 3)⟩, rfl⟩

def ref02_signed (a0 : (List Nat)) (a1 : Bool) (a2 : (List Nat)) (a3 : Bool) : Option ((List Nat) × Bool) := (if (a1 == a3) = true then ((r1Add a0 a2).bind fun x1 => (some (x1, a1))) else ((r1Compare a0 a2).bind fun x2 => (if 0 ≤ x2 then ((r1Minus a0 a2).bind fun x3 => (some (x3.1, a1))) else ((r1Minus a2 a0).bind fun x4 => (some (x4.1, a3))))))
theorem ref02_signed_ok {a0 : (List Nat)} {a1 : Bool} {a2 : (List Nat)} {a3 : Bool} {r : (List Nat) × Bool} (h : ref02_signed a0 a1 a2 a3 = some r) :
    Fn Try.prog 105 [.sl (L a0), .b a1, .sl (L a2), .b a3] (.tup [.d (.sl (L r.1)), .d (.b r.2)]) := by
  unfold ref02_signed at h
  refine Fn.of (rs := [.tmp 8, .tmp 9]) (nt := 41) Try.func105 rfl rfl rfl (by simp) rfl ?_
  refine .seq ?_
  refine .region ?_
  refine asn ?_
  refine asd ?_
  refine rn ?_
  refine .gh (Gh.keep [0, 1, 2, 3, 8, 9] rfl) ?_
  refine .seq ?_
  refine .seq ?_
  refine .region ?_
  refine vk (vmvd) ?_
  refine vk (vmvd) ?_
  refine vk (vbbn (.inl rfl) bo) ?_
  refine rn ?_
  refine .gh (Gh.keep [0, 1, 2, 3, 8, 9, 16] rfl) ?_
  by_cases hc : (a1 == a3) = true
  · replace h := ite_t hc h
    refine cnt hc ?_
    refine .seq ?_
    refine .region ?_
    refine vk (vmvd) ?_
    refine vk (vmvd) ?_
    obtain ⟨x1, hx1, h⟩ := bnd h
    refine vk ((vcl0 (r1Add_ok hx1) Try.call77).deep) ?_
    refine vk (vmvd) ?_
    refine asd ?_
    refine asd ?_
    refine rn ?_
    refine .gh (Gh.keep [0, 1, 2, 3, 8, 9] rfl) ?_
    refine .ret ?_
    cases h
    exact ⟨by decide, rfl, rfl, rfl⟩
  replace h := ite_f hc h
  refine cnf (bf hc) ?_
  refine .skip ?_
  show AW _ _ _ _ _ _
  refine .seq ?_
  refine .seq ?_
  refine .region ?_
  refine vk (vmvd) ?_
  refine vk (vmvd) ?_
  obtain ⟨x2, hx2, h⟩ := bnd h
  refine vk (vcl0 (r1Compare_ok hx2) Try.call68) ?_
  refine vk (vbi) ?_
  refine rn ?_
  refine .gh (Gh.keep [0, 1, 2, 3, 8, 9, 24] rfl) ?_
  by_cases hc : 0 ≤ x2
  · replace h := ite_t hc h
    refine cnt (decide_eq_true hc) ?_
    refine .seq ?_
    refine .region ?_
    refine vk (vmvd) ?_
    refine vk (vmvd) ?_
    obtain ⟨x3, hx3, h⟩ := bnd h
    refine vk (VOK.tupd (vs := [.sl (L x3.1), .b x3.2]) (vcl0 (r1Minus_ok hx3) Try.call114)) ?_
    refine vk (vmvd) ?_
    refine vk (vex) ?_
    refine vk (vex) ?_
    refine asd ?_
    refine asd ?_
    refine rn ?_
    refine .gh (Gh.keep [0, 1, 2, 3, 8, 9, 10] rfl) ?_
    refine .seq ?_
    refine .region ?_
    refine vk (vmvd) ?_
    refine vk (vmvd) ?_
    refine asd ?_
    refine asd ?_
    refine rn ?_
    refine .gh (Gh.keep [0, 2, 3, 8, 9] rfl) ?_
    refine .ret ?_
    cases h
    exact ⟨by decide, rfl, rfl, rfl⟩
  replace h := ite_f hc h
  refine cnf (decide_eq_false hc) ?_
  refine .skip ?_
  show AW _ _ _ _ _ _
  refine .seq ?_
  refine .region ?_
  refine vk (vmvd) ?_
  refine vk (vmvd) ?_
  obtain ⟨x4, hx4, h⟩ := bnd h
  refine vk (VOK.tupd (vs := [.sl (L x4.1), .b x4.2]) (vcl0 (r1Minus_ok hx4) Try.call114)) ?_
  refine vk (vmvd) ?_
  refine vk (vex) ?_
  refine vk (vex) ?_
  refine asd ?_
  refine asd ?_
  refine rn ?_
  refine .gh (Gh.keep [3, 8, 9, 12] rfl) ?_
  refine .seq ?_
  refine .region ?_
  refine vk (vmvd) ?_
  refine vk (vmvd) ?_
  refine asd ?_
  refine asd ?_
  refine rn ?_
  refine .gh (Gh.keep [8, 9] rfl) ?_
  refine .ret ?_
  cases h
  exact ⟨by decide, rfl, rfl, rfl⟩

def ref02_Two (a0 : RT) (a1 : RT) : Option (RT × Int) := ((r1Mul a0.2.1 a1.2.2).bind fun x1 => ((r1Mul a1.2.1 a0.2.2).bind fun x2 => ((ref02_signed x1 a0.1 x2 a1.1).bind fun x3 => ((r1Mul a0.2.2 a1.2.2).bind fun x4 => ((ref2Make x3.2 x3.1 x4).bind fun x5 => (some (x5.1, x5.2)))))))
theorem ref02_Two_ok {a0 : RT} {a1 : RT} {r : RT × Int} (h : ref02_Two a0 a1 = some r) :
    Fn Try.prog 98 [.ag [.b a0.1, .sl (L a0.2.1), .sl (L a0.2.2)], .ag [.b a1.1, .sl (L a1.2.1), .sl (L a1.2.2)]] (.tup [.d (.ag [.b r.1.1, .sl (L r.1.2.1), .sl (L r.1.2.2)]), .d (.i .i64 r.2)]) := by
  unfold ref02_Two at h
  refine Fn.ofC (rs := [.cell 4 25, .tmp 5]) (nt := 36) Try.func98 rfl rfl rfl (by simp) rfl ?_
  refine .seq ?_
  refine .region ?_
  refine vk (vbx) ?_
  refine vk (vbx) ?_
  refine vk (van (zero_of gI_R) gZ_R) ?_
  refine asd ?_
  refine rn ?_
  refine .gh (Gh.keep [2, 3, 4, 5] rfl) ?_
  refine .seq ?_
  obtain ⟨x1, hx1, h⟩ := bnd h
  obtain ⟨x2, hx2, h⟩ := bnd h
  obtain ⟨x3, hx3, h⟩ := bnd h
  refine .drawnF 18 [17] [(6, .d (.sl (L x3.1)))] [] mixed (by kernel_rfl) rfl ?_
  refine dv (vfa gF_R_1) ?_
  refine dv (vldp ga_L) ?_
  refine dv (vfa gF_R_2) ?_
  refine dv (vldp ga_L) ?_
  refine dv ((vcl0 (r1Mul_ok hx1) Try.call76).deep) ?_
  refine dv (vfa gF_R_0) ?_
  refine dv (vldp ga_bool) ?_
  refine dv (vfa gF_R_1) ?_
  refine dv (vldp ga_L) ?_
  refine dv (vfa gF_R_2) ?_
  refine dv (vldp ga_L) ?_
  refine dv ((vcl0 (r1Mul_ok hx2) Try.call76).deep) ?_
  refine dv (vfa gF_R_0) ?_
  refine dv (vldp ga_bool) ?_
  refine dv (VOK.tupd (vs := [.sl (L x3.1), .b x3.2]) (vcl0 (ref02_signed_ok hx3) Try.call105)) ?_
  refine dv (vmvd) ?_
  refine dv (vex) ?_
  refine dv (vex) ?_
  refine dz ?_
  refine ⟨?_, ?_, ?_⟩
  · intro k hk
    simp only [List.mem_cons, List.not_mem_nil, or_false] at hk
    subst hk
    exact ⟨_, _, _, rfl, rfl, rfl, rfl, rfl, rfl, vex⟩
  · intro om e hom hge
    cases hom
    exact ok_asd rfl ((hge 24 (fun k hk v hv => by
        simp only [List.mem_cons, List.not_mem_nil, or_false] at hk
        subst hk; exact (by decide : ¬ (some 25 = some 24)) (congrArg (Option.map Prod.fst) hv))).trans rfl) rfl ((congrArg isOwn (hge 6 (fun k hk v hv => by
        simp only [List.mem_cons, List.not_mem_nil, or_false] at hk
        subst hk; exact (by decide : ¬ (some 25 = some 6)) (congrArg (Option.map Prod.fst) hv)))).trans rfl) rfl ⟨rfl, rfl⟩
  refine asd ?_
  refine rn ?_
  refine .gh (Gh.keep [2, 3, 4, 5, 6, 7] rfl) ?_
  refine .seq ?_
  refine .region ?_
  refine vk (vmvd) ?_
  refine vk (vmvd) ?_
  refine vk (vfa gF_R_2) ?_
  refine vk (vldp ga_L) ?_
  refine vk (vfa gF_R_2) ?_
  refine vk (vldp ga_L) ?_
  obtain ⟨x4, hx4, h⟩ := bnd h
  refine vk ((vcl0 (r1Mul_ok hx4) Try.call76).deep) ?_
  obtain ⟨x5, hx5, h⟩ := bnd h
  refine vk (VOK.tupd (vs := [.ag [.b x5.1.1, .sl (L x5.1.2.1), .sl (L x5.1.2.2)], .i .i64 x5.2]) (vcl0 (ref2Make_ok hx5) Try.call17)) ?_
  refine vk (vex) ?_
  refine vk (vex) ?_
  refine stn ?_ gS_R (by decide)
  refine asd ?_
  refine rn ?_
  refine .gh (Gh.keep [4, 5] rfl) ?_
  refine .ret ?_
  cases h
  exact ⟨_, _, ⟨.inr rfl, gA_R, gS_R, (by decide : (0 : Nat) < 3)⟩, rfl, rfl⟩

def ref02_Times (a0 : RT) (a1 : RT) : Option (RT × Int) := ((r1Mul a0.2.1 a1.2.1).bind fun x1 => ((r1Mul a0.2.2 a1.2.2).bind fun x2 => ((ref2Make (a0.1 != a1.1) x1 x2).bind fun x3 => (some (x3.1, x3.2)))))
theorem ref02_Times_ok {a0 : RT} {a1 : RT} {r : RT × Int} (h : ref02_Times a0 a1 = some r) :
    Fn Try.prog 99 [.ag [.b a0.1, .sl (L a0.2.1), .sl (L a0.2.2)], .ag [.b a1.1, .sl (L a1.2.1), .sl (L a1.2.2)]] (.tup [.d (.ag [.b r.1.1, .sl (L r.1.2.1), .sl (L r.1.2.2)]), .d (.i .i64 r.2)]) := by
  unfold ref02_Times at h
  refine Fn.ofC (rs := [.cell 4 25, .tmp 5]) (nt := 24) Try.func99 rfl rfl rfl (by simp) rfl ?_
  refine .seq ?_
  refine .region ?_
  refine vk (vbx) ?_
  refine vk (vbx) ?_
  refine vk (van (zero_of gI_R) gZ_R) ?_
  refine asd ?_
  refine rn ?_
  refine .gh (Gh.keep [2, 3, 4, 5] rfl) ?_
  refine .seq ?_
  refine .drawn 18 mixed (by kernel_rfl) ?_
  refine dv (vfa gF_R_0) ?_
  refine dv (vldp ga_bool) ?_
  refine dv (vfa gF_R_0) ?_
  refine dv (vldp ga_bool) ?_
  refine dv (vbbn (.inr rfl) bo) ?_
  refine dv (vfa gF_R_1) ?_
  refine dv (vldp ga_L) ?_
  refine dv (vfa gF_R_1) ?_
  refine dv (vldp ga_L) ?_
  obtain ⟨x1, hx1, h⟩ := bnd h
  refine dv ((vcl0 (r1Mul_ok hx1) Try.call76).deep) ?_
  refine dv (vfa gF_R_2) ?_
  refine dv (vldp ga_L) ?_
  refine dv (vfa gF_R_2) ?_
  refine dv (vldp ga_L) ?_
  obtain ⟨x2, hx2, h⟩ := bnd h
  refine dv ((vcl0 (r1Mul_ok hx2) Try.call76).deep) ?_
  obtain ⟨x3, hx3, h⟩ := bnd h
  refine dv (VOK.tupd (vs := [.ag [.b x3.1.1, .sl (L x3.1.2.1), .sl (L x3.1.2.2)], .i .i64 x3.2]) (vcl0 (ref2Make_ok hx3) Try.call17)) ?_
  refine dv (vex) ?_
  refine dv (vex) ?_
  refine dz ?_
  refine stn ?_ gS_R (by decide)
  refine asd ?_
  refine rn ?_
  refine .gh (Gh.keep [4, 5] rfl) ?_
  refine .ret ?_
  cases h
  exact ⟨_, _, ⟨.inr rfl, gA_R, gS_R, (by decide : (0 : Nat) < 3)⟩, rfl, rfl⟩

def ref02_all_l0 (a0 : (List RT)) : Nat → Bool → Int → Option (Bool)
  | 0, _, _ => none
  | k + 1, s1, s2 => (if s2 < ((List.length a0 : Nat) : Int) then ((rd? a0 s2).bind fun x3 => ((ref2Right x3).bind fun x4 => (if x4 = true then (ref02_all_l0 a0 k s1 (w64 (s2 + 1))) else (some (false))))) else (some (true)))
def ref02_all (a0 : (List RT)) : Option (Bool) := (ref02_all_l0 a0 FUEL false 0)
theorem ref02_all_ok {a0 : (List RT)} {r : Bool} (h : ref02_all a0 = some r) :
    Fn Try.prog 96 [.sl (RVs a0)] (.d (.b r)) := by
  unfold ref02_all at h
  refine Fn.of (rs := [.tmp 2]) (nt := 16) Try.func96 rfl rfl rfl (by simp) rfl ?_
  refine .seq ?_
  refine .region ?_
  refine asd ?_
  refine rn ?_
  refine .gh (Gh.keep [0, 2] rfl) ?_
  refine .seq ?_
  refine .seq ?_
  refine .region ?_
  refine asd ?_
  refine rn ?_
  refine .gh (Gh.keep [0, 2, 3] rfl) ?_
  refine .block ?_
  refine .loop (.gh (Gh.keep [0, 2, 3] rfl) ?_)
  refine AL.ind (σ := Nat × Bool × Int) (m := fun p => p.1) (e := fun p => [(0, .d (.sl (RVs a0))), (2, .d (.b p.2.1)), (3, .d (.i .i64 p.2.2))]) (h := fun p => []) (I := fun p => ref02_all_l0 a0 p.1 p.2.1 p.2.2 = some r) ?_ (FUEL, false, 0) h
  rintro ⟨k, s1, s2⟩ h ih
  dsimp only at h ih ⊢
  rcases k with _ | k
  · rw [ref02_all_l0] at h; cases h
  rw [ref02_all_l0] at h
  refine .seq ?_
  refine .seq ?_
  refine .region ?_
  refine vk (vmvd) ?_
  refine vk (vmvd) ?_
  refine vk (vlnE (RVs_length _) (RVs_sz _) gu_RVs) ?_
  refine vk (vbi) ?_
  refine rn ?_
  refine .gh (Gh.keep [0, 2, 3, 7] rfl) ?_
  by_cases hc : s2 < ((List.length a0 : Nat) : Int)
  · replace h := ite_t hc h
    refine cnt (decide_eq_true hc) ?_
    refine .skip ?_
    show AW _ _ _ _ _ _
    refine .seq ?_
    refine .block ?_
    refine .seq ?_
    refine .region ?_
    refine vk (vmvd) ?_
    refine vk (vmvd) ?_
    obtain ⟨x3, hx3, h⟩ := bnd h
    obtain ⟨nx3, hnx3, hxx3⟩ := rd_some hx3
    refine vk (vix nx3 hnx3 (RVs_at hxx3) rfl gs_RVs) ?_
    refine vk (vlda gA_R gS_R) ?_
    obtain ⟨x4, hx4, h⟩ := bnd h
    refine vk (vcl0 (ref2Right_ok hx4) Try.call20) ?_
    refine vk (vnt) ?_
    refine rn ?_
    refine .gh (Gh.keep [0, 2, 3, 15] rfl) ?_
    by_cases hc : x4 = true
    · replace h := ite_t hc h
      refine cnf (ntf hc) ?_
      refine .skip ?_
      show AW _ _ _ _ _ _
      refine .region ?_
      refine vk (vmvd) ?_
      refine vk (vbi) ?_
      refine asd ?_
      refine .nil ?_
      refine AL.gh (Gh.keep [0, 2, 3] rfl) ?_
      exact ih (k, s1, (w64 (s2 + 1))) h (Nat.lt_succ_self _)
    replace h := ite_f hc h
    refine cnt (ntt (bf hc)) ?_
    refine .seq ?_
    refine .region ?_
    refine asd ?_
    refine rn ?_
    refine .gh (Gh.keep [0, 2, 3] rfl) ?_
    refine .ret ?_
    cases h
    exact ⟨rfl, rfl⟩
  replace h := ite_f hc h
  refine cnf (decide_eq_false hc) ?_
  refine .exit ?_
  show AW _ _ _ _ _ _
  refine .seq ?_
  refine .region ?_
  refine asd ?_
  refine rn ?_
  refine .gh (Gh.keep [2] rfl) ?_
  refine .ret ?_
  cases h
  exact ⟨rfl, rfl⟩

def ref02_Add_l0 (a0 : (List RT)) : Nat → RT → Int → RT → Int → Option (RT × Int)
  | 0, _, _, _, _ => none
  | k + 1, s3, s4, s5, s6 => (if s6 < ((List.length a0 : Nat) : Int) then ((rd? a0 s6).bind fun x7 => ((ref02_Two s5 x7).bind fun x8 => (if x8.2 = 0 then (ref02_Add_l0 a0 k s3 s4 x8.1 (w64 (s6 + 1))) else (some ((false, [], []), x8.2))))) else (some (s5, 0)))
def ref02_Add (a0 : (List RT)) : Option (RT × Int) := ((ref02_all a0).bind fun x1 => (if x1 = true then (ref2Zero.bind fun x2 => (ref02_Add_l0 a0 FUEL (false, [], []) 0 x2 0)) else (some ((false, [], []), 22))))
theorem ref02_Add_ok {a0 : (List RT)} {r : RT × Int} (h : ref02_Add a0 = some r) :
    Fn Try.prog 41 [.sl (RVs a0)] (.tup [.d (.ag [.b r.1.1, .sl (L r.1.2.1), .sl (L r.1.2.2)]), .d (.i .i64 r.2)]) := by
  unfold ref02_Add at h
  refine Fn.ofC (rs := [.cell 2 25, .tmp 3]) (nt := 34) Try.func41 rfl rfl rfl (by simp) rfl ?_
  refine .seq ?_
  refine .region ?_
  refine vk (van (zero_of gI_R) gZ_R) ?_
  refine asd ?_
  refine rn ?_
  refine .gh (Gh.keep [0, 2, 3] rfl) ?_
  refine .seq ?_
  refine .seq ?_
  refine .region ?_
  refine vk (vmvd) ?_
  obtain ⟨x1, hx1, h⟩ := bnd h
  refine vk (vcl0 (ref02_all_ok hx1) Try.call96) ?_
  refine vk (vnt) ?_
  refine rn ?_
  refine .gh (Gh.keep [0, 2, 3, 10] rfl) ?_
  by_cases hc : x1 = true
  · replace h := ite_t hc h
    refine cnf (ntf hc) ?_
    refine .skip ?_
    show AW _ _ _ _ _ _
    refine .seq ?_
    refine .region ?_
    obtain ⟨x2, hx2, h⟩ := bnd h
    refine vk (vcl0 (ref2Zero_ok hx2) Try.call97) ?_
    refine vk (van (zero_of gI_R) gZ_R) ?_
    refine stn ?_ gS_R (by decide)
    refine rn ?_
    refine .gh (Gh.keep [0, 2, 3, 4] rfl) ?_
    refine .seq ?_
    refine .seq ?_
    refine .region ?_
    refine asd ?_
    refine rn ?_
    refine .gh (Gh.keep [0, 2, 3, 4, 5] rfl) ?_
    refine .block ?_
    refine .loop (.gh (Gh.keep [0, 2, 3, 4, 5] rfl) ?_)
    refine AL.ind (σ := Nat × RT × Int × RT × Int) (m := fun p => p.1) (e := fun p => [(0, .d (.sl (RVs a0))), (2, .nb [.b p.2.1.1, .sl (L p.2.1.2.1), .sl (L p.2.1.2.2)]), (3, .d (.i .i64 p.2.2.1)), (4, .nb [.b p.2.2.2.1.1, .sl (L p.2.2.2.1.2.1), .sl (L p.2.2.2.1.2.2)]), (5, .d (.i .i64 p.2.2.2.2))]) (h := fun p => []) (I := fun p => ref02_Add_l0 a0 p.1 p.2.1 p.2.2.1 p.2.2.2.1 p.2.2.2.2 = some r) ?_ (FUEL, (false, [], []), 0, x2, 0) h
    rintro ⟨k, s3, s4, s5, s6⟩ h ih
    dsimp only at h ih ⊢
    rcases k with _ | k
    · rw [ref02_Add_l0] at h; cases h
    rw [ref02_Add_l0] at h
    refine .seq ?_
    refine .seq ?_
    refine .region ?_
    refine vk (vmvd) ?_
    refine vk (vmvd) ?_
    refine vk (vlnE (RVs_length _) (RVs_sz _) gu_RVs) ?_
    refine vk (vbi) ?_
    refine rn ?_
    refine .gh (Gh.keep [0, 2, 3, 4, 5, 16] rfl) ?_
    by_cases hc : s6 < ((List.length a0 : Nat) : Int)
    · replace h := ite_t hc h
      refine cnt (decide_eq_true hc) ?_
      refine .skip ?_
      show AW _ _ _ _ _ _
      refine .seq ?_
      refine .block ?_
      refine .seq ?_
      obtain ⟨x7, hx7, h⟩ := bnd h
      obtain ⟨x8, hx8, h⟩ := bnd h
      refine .drawnF 10 [8] [(6, .nb [.b x8.1.1, .sl (L x8.1.2.1), .sl (L x8.1.2.2)])] [] mixed (by kernel_rfl) rfl ?_
      refine dv (vldn gA_R gS_R) ?_
      refine dv (vmvd) ?_
      refine dv (vmvd) ?_
      obtain ⟨nx7, hnx7, hxx7⟩ := rd_some hx7
      refine dv (vix nx7 hnx7 (RVs_at hxx7) rfl gs_RVs) ?_
      refine dv (vlda gA_R gS_R) ?_
      refine dv (VOK.tupd (vs := [.ag [.b x8.1.1, .sl (L x8.1.2.1), .sl (L x8.1.2.2)], .i .i64 x8.2]) (vcl0 (ref02_Two_ok hx8) Try.call98)) ?_
      refine dv (vmvd) ?_
      refine dv (vex) ?_
      refine dv (vex) ?_
      refine dv (van (zero_of gI_R) gZ_R) ?_
      refine dz ?_
      refine ⟨?_, ?_, ?_⟩
      · intro k hk
        simp only [List.mem_cons, List.not_mem_nil, or_false] at hk
        subst hk
        exact ⟨_, _, _, rfl, rfl, rfl, rfl, rfl, rfl, vex⟩
      · intro om e hom hge
        cases hom
        exact ok_stn (cs := [.b false, .sl (L []), .sl (L [])]) (cs' := [.b x8.1.1, .sl (L x8.1.2.1), .sl (L x8.1.2.2)]) gS_R (by decide) rfl ((hge 6 (fun k hk v hv => by
            simp only [List.mem_cons, List.not_mem_nil, or_false] at hk
            subst hk; exact (by decide : ¬ (some 27 = some 6)) (congrArg (Option.map Prod.fst) hv))).trans rfl) ((congrArg deepOf (hge 26 (fun k hk v hv => by
            simp only [List.mem_cons, List.not_mem_nil, or_false] at hk
            subst hk; exact (by decide : ¬ (some 27 = some 26)) (congrArg (Option.map Prod.fst) hv)))).trans rfl) rfl rfl rfl rfl ⟨rfl, rfl⟩
      refine asd ?_
      refine rn ?_
      refine .gh (Gh.keep [0, 2, 3, 4, 5, 6, 7] rfl) ?_
      refine .seq ?_
      refine .seq ?_
      refine .region ?_
      refine vk (vmvd) ?_
      refine vk (vbi) ?_
      refine rn ?_
      refine .gh (Gh.keep [0, 2, 3, 4, 5, 6, 7, 29] rfl) ?_
      by_cases hc : x8.2 = 0
      · replace h := ite_t hc h
        refine cnf (ntf (decide_eq_true hc)) ?_
        refine .skip ?_
        show AW _ _ _ _ _ _
        refine .region ?_
        refine vk (vldn gA_R gS_R) ?_
        refine stn ?_ gS_R (by decide)
        refine .nil ?_
        show AW _ _ _ _ _ _
        refine .gh (Gh.keep [0, 2, 3, 4, 5] rfl) ?_
        refine .region ?_
        refine vk (vmvd) ?_
        refine vk (vbi) ?_
        refine asd ?_
        refine .nil ?_
        refine AL.gh (Gh.keep [0, 2, 3, 4, 5] rfl) ?_
        exact ih (k, s3, s4, x8.1, (w64 (s6 + 1))) h (Nat.lt_succ_self _)
      replace h := ite_f hc h
      refine cnt (ntt (decide_eq_false hc)) ?_
      refine .seq ?_
      refine .region ?_
      refine vk (vbd gP_R gI_R gZ_R) ?_
      refine vk (vmvd) ?_
      refine stn ?_ gS_R (by decide)
      refine asd ?_
      refine rn ?_
      refine .gh (Gh.keep [0, 2, 3, 4, 5, 6] rfl) ?_
      refine .ret ?_
      cases h
      exact ⟨_, _, ⟨.inr rfl, gA_R, gS_R, (by decide : (0 : Nat) < 3)⟩, rfl, rfl⟩
    replace h := ite_f hc h
    refine cnf (decide_eq_false hc) ?_
    refine .exit ?_
    show AW _ _ _ _ _ _
    refine .seq ?_
    refine .region ?_
    refine vk (vldn gA_R gS_R) ?_
    refine stn ?_ gS_R (by decide)
    refine asd ?_
    refine rn ?_
    refine .gh (Gh.keep [2, 3] rfl) ?_
    refine .ret ?_
    cases h
    exact ⟨_, _, ⟨.inr rfl, gA_R, gS_R, (by decide : (0 : Nat) < 3)⟩, rfl, rfl⟩
  replace h := ite_f hc h
  refine cnt (ntt (bf hc)) ?_
  refine .seq ?_
  refine .region ?_
  refine vk (vbd gP_R gI_R gZ_R) ?_
  refine stn ?_ gS_R (by decide)
  refine asd ?_
  refine rn ?_
  refine .gh (Gh.keep [0, 2, 3] rfl) ?_
  refine .ret ?_
  cases h
  exact ⟨_, _, ⟨.inr rfl, gA_R, gS_R, (by decide : (0 : Nat) < 3)⟩, rfl, rfl⟩

def ref02_Mul_l0 (a0 : (List RT)) : Nat → RT → Int → RT → Int → Option (RT × Int)
  | 0, _, _, _, _ => none
  | k + 1, s3, s4, s5, s6 => (if s6 < ((List.length a0 : Nat) : Int) then ((rd? a0 s6).bind fun x7 => ((ref02_Times s5 x7).bind fun x8 => (if x8.2 = 0 then (ref02_Mul_l0 a0 k s3 s4 x8.1 (w64 (s6 + 1))) else (some ((false, [], []), x8.2))))) else (some (s5, 0)))
def ref02_Mul (a0 : (List RT)) : Option (RT × Int) := ((ref02_all a0).bind fun x1 => (if x1 = true then ((ref02_OfInt 1).bind fun x2 => (ref02_Mul_l0 a0 FUEL (false, [], []) 0 x2 0)) else (some ((false, [], []), 22))))
theorem ref02_Mul_ok {a0 : (List RT)} {r : RT × Int} (h : ref02_Mul a0 = some r) :
    Fn Try.prog 42 [.sl (RVs a0)] (.tup [.d (.ag [.b r.1.1, .sl (L r.1.2.1), .sl (L r.1.2.2)]), .d (.i .i64 r.2)]) := by
  unfold ref02_Mul at h
  refine Fn.ofC (rs := [.cell 2 25, .tmp 3]) (nt := 34) Try.func42 rfl rfl rfl (by simp) rfl ?_
  refine .seq ?_
  refine .region ?_
  refine vk (van (zero_of gI_R) gZ_R) ?_
  refine asd ?_
  refine rn ?_
  refine .gh (Gh.keep [0, 2, 3] rfl) ?_
  refine .seq ?_
  refine .seq ?_
  refine .region ?_
  refine vk (vmvd) ?_
  obtain ⟨x1, hx1, h⟩ := bnd h
  refine vk (vcl0 (ref02_all_ok hx1) Try.call96) ?_
  refine vk (vnt) ?_
  refine rn ?_
  refine .gh (Gh.keep [0, 2, 3, 10] rfl) ?_
  by_cases hc : x1 = true
  · replace h := ite_t hc h
    refine cnf (ntf hc) ?_
    refine .skip ?_
    show AW _ _ _ _ _ _
    refine .seq ?_
    refine .region ?_
    obtain ⟨x2, hx2, h⟩ := bnd h
    refine vk (vcl0 (ref02_OfInt_ok hx2) Try.call29) ?_
    refine vk (van (zero_of gI_R) gZ_R) ?_
    refine stn ?_ gS_R (by decide)
    refine rn ?_
    refine .gh (Gh.keep [0, 2, 3, 4] rfl) ?_
    refine .seq ?_
    refine .seq ?_
    refine .region ?_
    refine asd ?_
    refine rn ?_
    refine .gh (Gh.keep [0, 2, 3, 4, 5] rfl) ?_
    refine .block ?_
    refine .loop (.gh (Gh.keep [0, 2, 3, 4, 5] rfl) ?_)
    refine AL.ind (σ := Nat × RT × Int × RT × Int) (m := fun p => p.1) (e := fun p => [(0, .d (.sl (RVs a0))), (2, .nb [.b p.2.1.1, .sl (L p.2.1.2.1), .sl (L p.2.1.2.2)]), (3, .d (.i .i64 p.2.2.1)), (4, .nb [.b p.2.2.2.1.1, .sl (L p.2.2.2.1.2.1), .sl (L p.2.2.2.1.2.2)]), (5, .d (.i .i64 p.2.2.2.2))]) (h := fun p => []) (I := fun p => ref02_Mul_l0 a0 p.1 p.2.1 p.2.2.1 p.2.2.2.1 p.2.2.2.2 = some r) ?_ (FUEL, (false, [], []), 0, x2, 0) h
    rintro ⟨k, s3, s4, s5, s6⟩ h ih
    dsimp only at h ih ⊢
    rcases k with _ | k
    · rw [ref02_Mul_l0] at h; cases h
    rw [ref02_Mul_l0] at h
    refine .seq ?_
    refine .seq ?_
    refine .region ?_
    refine vk (vmvd) ?_
    refine vk (vmvd) ?_
    refine vk (vlnE (RVs_length _) (RVs_sz _) gu_RVs) ?_
    refine vk (vbi) ?_
    refine rn ?_
    refine .gh (Gh.keep [0, 2, 3, 4, 5, 16] rfl) ?_
    by_cases hc : s6 < ((List.length a0 : Nat) : Int)
    · replace h := ite_t hc h
      refine cnt (decide_eq_true hc) ?_
      refine .skip ?_
      show AW _ _ _ _ _ _
      refine .seq ?_
      refine .block ?_
      refine .seq ?_
      obtain ⟨x7, hx7, h⟩ := bnd h
      obtain ⟨x8, hx8, h⟩ := bnd h
      refine .drawnF 10 [8] [(6, .nb [.b x8.1.1, .sl (L x8.1.2.1), .sl (L x8.1.2.2)])] [] mixed (by kernel_rfl) rfl ?_
      refine dv (vldn gA_R gS_R) ?_
      refine dv (vmvd) ?_
      refine dv (vmvd) ?_
      obtain ⟨nx7, hnx7, hxx7⟩ := rd_some hx7
      refine dv (vix nx7 hnx7 (RVs_at hxx7) rfl gs_RVs) ?_
      refine dv (vlda gA_R gS_R) ?_
      refine dv (VOK.tupd (vs := [.ag [.b x8.1.1, .sl (L x8.1.2.1), .sl (L x8.1.2.2)], .i .i64 x8.2]) (vcl0 (ref02_Times_ok hx8) Try.call99)) ?_
      refine dv (vmvd) ?_
      refine dv (vex) ?_
      refine dv (vex) ?_
      refine dv (van (zero_of gI_R) gZ_R) ?_
      refine dz ?_
      refine ⟨?_, ?_, ?_⟩
      · intro k hk
        simp only [List.mem_cons, List.not_mem_nil, or_false] at hk
        subst hk
        exact ⟨_, _, _, rfl, rfl, rfl, rfl, rfl, rfl, vex⟩
      · intro om e hom hge
        cases hom
        exact ok_stn (cs := [.b false, .sl (L []), .sl (L [])]) (cs' := [.b x8.1.1, .sl (L x8.1.2.1), .sl (L x8.1.2.2)]) gS_R (by decide) rfl ((hge 6 (fun k hk v hv => by
            simp only [List.mem_cons, List.not_mem_nil, or_false] at hk
            subst hk; exact (by decide : ¬ (some 27 = some 6)) (congrArg (Option.map Prod.fst) hv))).trans rfl) ((congrArg deepOf (hge 26 (fun k hk v hv => by
            simp only [List.mem_cons, List.not_mem_nil, or_false] at hk
            subst hk; exact (by decide : ¬ (some 27 = some 26)) (congrArg (Option.map Prod.fst) hv)))).trans rfl) rfl rfl rfl rfl ⟨rfl, rfl⟩
      refine asd ?_
      refine rn ?_
      refine .gh (Gh.keep [0, 2, 3, 4, 5, 6, 7] rfl) ?_
      refine .seq ?_
      refine .seq ?_
      refine .region ?_
      refine vk (vmvd) ?_
      refine vk (vbi) ?_
      refine rn ?_
      refine .gh (Gh.keep [0, 2, 3, 4, 5, 6, 7, 29] rfl) ?_
      by_cases hc : x8.2 = 0
      · replace h := ite_t hc h
        refine cnf (ntf (decide_eq_true hc)) ?_
        refine .skip ?_
        show AW _ _ _ _ _ _
        refine .region ?_
        refine vk (vldn gA_R gS_R) ?_
        refine stn ?_ gS_R (by decide)
        refine .nil ?_
        show AW _ _ _ _ _ _
        refine .gh (Gh.keep [0, 2, 3, 4, 5] rfl) ?_
        refine .region ?_
        refine vk (vmvd) ?_
        refine vk (vbi) ?_
        refine asd ?_
        refine .nil ?_
        refine AL.gh (Gh.keep [0, 2, 3, 4, 5] rfl) ?_
        exact ih (k, s3, s4, x8.1, (w64 (s6 + 1))) h (Nat.lt_succ_self _)
      replace h := ite_f hc h
      refine cnt (ntt (decide_eq_false hc)) ?_
      refine .seq ?_
      refine .region ?_
      refine vk (vbd gP_R gI_R gZ_R) ?_
      refine vk (vmvd) ?_
      refine stn ?_ gS_R (by decide)
      refine asd ?_
      refine rn ?_
      refine .gh (Gh.keep [0, 2, 3, 4, 5, 6] rfl) ?_
      refine .ret ?_
      cases h
      exact ⟨_, _, ⟨.inr rfl, gA_R, gS_R, (by decide : (0 : Nat) < 3)⟩, rfl, rfl⟩
    replace h := ite_f hc h
    refine cnf (decide_eq_false hc) ?_
    refine .exit ?_
    show AW _ _ _ _ _ _
    refine .seq ?_
    refine .region ?_
    refine vk (vldn gA_R gS_R) ?_
    refine stn ?_ gS_R (by decide)
    refine asd ?_
    refine rn ?_
    refine .gh (Gh.keep [2, 3] rfl) ?_
    refine .ret ?_
    cases h
    exact ⟨_, _, ⟨.inr rfl, gA_R, gS_R, (by decide : (0 : Nat) < 3)⟩, rfl, rfl⟩
  replace h := ite_f hc h
  refine cnt (ntt (bf hc)) ?_
  refine .seq ?_
  refine .region ?_
  refine vk (vbd gP_R gI_R gZ_R) ?_
  refine stn ?_ gS_R (by decide)
  refine asd ?_
  refine rn ?_
  refine .gh (Gh.keep [0, 2, 3] rfl) ?_
  refine .ret ?_
  cases h
  exact ⟨_, _, ⟨.inr rfl, gA_R, gS_R, (by decide : (0 : Nat) < 3)⟩, rfl, rfl⟩

def ref02_neg (a0 : RT) : Option (RT) := ((ref02_copied a0).bind fun x1 => (some ((((!x1.1) && (decide (0 < ((List.length x1.2.1 : Nat) : Int)))), x1.2.1, x1.2.2))))
theorem ref02_neg_ok {a0 : RT} {r : RT} (h : ref02_neg a0 = some r) :
    Fn Try.prog 101 [.ag [.b a0.1, .sl (L a0.2.1), .sl (L a0.2.2)]] (.d (.ag [.b r.1, .sl (L r.2.1), .sl (L r.2.2)])) := by
  unfold ref02_neg at h
  refine Fn.ofC (rs := [.cell 2 25]) (nt := 17) Try.func101 rfl rfl rfl (by simp) rfl ?_
  refine .seq ?_
  refine .region ?_
  refine vk (vbx) ?_
  refine vk (van (zero_of gI_R) gZ_R) ?_
  refine rn ?_
  refine .gh (Gh.keep [1, 2] rfl) ?_
  refine .seq ?_
  refine .region ?_
  refine vk (vlda gA_R gS_R) ?_
  obtain ⟨x1, hx1, h⟩ := bnd h
  refine vk (vcl0 (ref02_copied_ok hx1) Try.call107) ?_
  refine vk (van (zero_of gI_R) gZ_R) ?_
  refine stn ?_ gS_R (by decide)
  refine RL.gh2 (Gh.nbb (t := 3) rfl) ?_
  refine rn ?_
  refine .gh (Gh.keep [2, 3] rfl) ?_
  refine .seq ?_
  refine AW.mr (σ := Unit) (fun _ => True) (fun _ => [(2, .nb [.b false, .sl (L []), .sl (L [])]), (3, .bp 0 0)]) (fun _ => [HO.box [.d (.b ((!x1.1) && (decide (0 < ((List.length x1.2.1 : Nat) : Int))))), .d (.sl (L x1.2.1)), .d (.sl (L x1.2.2))]]) ?_ ?_
  · skip
    refine .region ?_
    refine vk (vfab gF_R_0) ?_
    refine vk (vldb (cs := [.d (.b x1.1), .d (.sl (L x1.2.1)), .d (.sl (L x1.2.2))]) (c := .b x1.1) rfl rfl ga_bool) ?_
    refine vk (vnt) ?_
    by_cases hc : x1.1 = true
    · have hb0 : (!x1.1) = false := (ntf hc)
      refine vk (VOK.lit (vmvd) hb0) ?_
      refine gf ?_
      refine gf ?_
      refine gf ?_
      refine gf ?_
      refine vk (vpkd) ?_
      refine vk (vfab gF_R_0) ?_
      refine stb (cs := [.d (.b x1.1), .d (.sl (L x1.2.1)), .d (.sl (L x1.2.2))]) (c := .d (.b x1.1)) rfl rfl ?_ gz_bool
      refine RL.gh (Gh.keep [2, 3] rfl) ?_
      refine .nil ?_
      exact jr () trivial (by simp only [hb0]; rfl) (by simp only [hb0]; rfl)
    have hb0 : (!x1.1) = true := (ntt (bf hc))
    refine vk (VOK.lit (vmvd) hb0) ?_
    refine vk (vfab gF_R_1) ?_
    refine vk (vldb (cs := [.d (.b x1.1), .d (.sl (L x1.2.1)), .d (.sl (L x1.2.2))]) (c := .sl (L x1.2.1)) rfl rfl ga_L) ?_
    refine vk (vlnE (L_length _) (L_sz _) gu_L) ?_
    refine vk (vbi) ?_
    refine vk (vpkd) ?_
    refine vk (vfab gF_R_0) ?_
    refine stb (cs := [.d (.b x1.1), .d (.sl (L x1.2.1)), .d (.sl (L x1.2.2))]) (c := .d (.b x1.1)) rfl rfl ?_ gz_bool
    refine RL.gh (Gh.keep [2, 3] rfl) ?_
    refine .nil ?_
    exact jr () trivial (by simp only [hb0]; rfl) (by simp only [hb0]; rfl)
  rintro _ _
  refine .seq ?_
  refine .region ?_
  refine vk (vldba (cs := [.d (.b ((!x1.1) && (decide (0 < ((List.length x1.2.1 : Nat) : Int))))), .d (.sl (L x1.2.1)), .d (.sl (L x1.2.2))]) (ds := [.b ((!x1.1) && (decide (0 < ((List.length x1.2.1 : Nat) : Int)))), .sl (L x1.2.1), .sl (L x1.2.2)]) rfl gA_R gS_R) ?_
  refine stn ?_ gS_R (by decide)
  refine rn ?_
  refine .gh (Gh.keep [2] rfl) ?_
  refine .ret ?_
  cases h
  exact ⟨_, ⟨.inr rfl, gA_R, gS_R, (by decide : (0 : Nat) < 3)⟩, rfl⟩

def ref02_Sub (a0 : RT) (a1 : RT) : Option (RT × Int) := ((ref2Right a0).bind fun x1 => (Option.bind ((if x1 = true then ((ref2Right a1).bind fun x3 => (some (!x3))) else (some true)) : Option (Bool)) fun (z1 : Bool) => (if z1 = true then (some ((false, [], []), 22)) else ((ref02_neg a1).bind fun x4 => ((ref02_Two a0 x4).bind fun x5 => (some (x5.1, x5.2)))))))
theorem ref02_Sub_ok {a0 : RT} {a1 : RT} {r : RT × Int} (h : ref02_Sub a0 a1 = some r) :
    Fn Try.prog 44 [.ag [.b a0.1, .sl (L a0.2.1), .sl (L a0.2.2)], .ag [.b a1.1, .sl (L a1.2.1), .sl (L a1.2.2)]] (.tup [.d (.ag [.b r.1.1, .sl (L r.1.2.1), .sl (L r.1.2.2)]), .d (.i .i64 r.2)]) := by
  unfold ref02_Sub at h
  refine Fn.ofC (rs := [.cell 4 25, .tmp 5]) (nt := 21) Try.func44 rfl rfl rfl (by simp) rfl ?_
  refine .seq ?_
  refine .region ?_
  refine vk (vbx) ?_
  refine vk (vbx) ?_
  refine vk (van (zero_of gI_R) gZ_R) ?_
  refine asd ?_
  refine rn ?_
  refine .gh (Gh.keep [2, 3, 4, 5] rfl) ?_
  refine .seq ?_
  refine .seq ?_
  obtain ⟨x1, hx1, h⟩ := bnd h
  obtain ⟨z1, hz, h⟩ := bnd h
  refine AW.mr (σ := Unit) (fun _ => True) (fun _ => [(2, .d (.ptr [.b a0.1, .sl (L a0.2.1), .sl (L a0.2.2)])), (3, .d (.ptr [.b a1.1, .sl (L a1.2.1), .sl (L a1.2.2)])), (4, .nb [.b false, .sl (L []), .sl (L [])]), (5, .d (.i .i64 0)), (13, .d (.b z1))]) (fun _ => []) ?_ ?_
  · skip
    refine .region ?_
    refine vk (vlda gA_R gS_R) ?_
    refine vk (vcl0 (ref2Right_ok hx1) Try.call20) ?_
    refine vk (vnt) ?_
    by_cases hc : x1 = true
    · replace hz := ite_t hc hz
      have hb0 : (!x1) = false := (ntf hc)
      refine vk (VOK.lit (vmvd) hb0) ?_
      refine vk (vlda gA_R gS_R) ?_
      obtain ⟨x3, hx3, hz⟩ := bnd hz
      refine vk (vcl0 (ref2Right_ok hx3) Try.call20) ?_
      refine vk (vnt) ?_
      refine vk (vpkd) ?_
      refine RL.gh (Gh.keep [2, 3, 4, 5, 13] rfl) ?_
      refine .nil ?_
      cases hz
      exact jr () trivial
    replace hz := ite_f hc hz
    have hb0 : (!x1) = true := (ntt (bf hc))
    refine vk (VOK.lit (vmvd) hb0) ?_
    refine gf ?_
    refine gf ?_
    refine gf ?_
    refine vk (vpkd) ?_
    refine RL.gh (Gh.keep [2, 3, 4, 5, 13] rfl) ?_
    refine .nil ?_
    cases hz
    exact jr () trivial
  rintro _ _
  by_cases hc : z1 = true
  · replace h := ite_t hc h
    refine cnt hc ?_
    refine .seq ?_
    refine .region ?_
    refine vk (vbd gP_R gI_R gZ_R) ?_
    refine stn ?_ gS_R (by decide)
    refine asd ?_
    refine rn ?_
    refine .gh (Gh.keep [2, 3, 4, 5] rfl) ?_
    refine .ret ?_
    cases h
    exact ⟨_, _, ⟨.inr rfl, gA_R, gS_R, (by decide : (0 : Nat) < 3)⟩, rfl, rfl⟩
  replace h := ite_f hc h
  refine cnf (bf hc) ?_
  refine .skip ?_
  show AW _ _ _ _ _ _
  refine .seq ?_
  refine .drawn 6 mixed (by kernel_rfl) ?_
  refine dv (vlda gA_R gS_R) ?_
  refine dv (vlda gA_R gS_R) ?_
  obtain ⟨x4, hx4, h⟩ := bnd h
  refine dv (vcl0 (ref02_neg_ok hx4) Try.call101) ?_
  obtain ⟨x5, hx5, h⟩ := bnd h
  refine dv (VOK.tupd (vs := [.ag [.b x5.1.1, .sl (L x5.1.2.1), .sl (L x5.1.2.2)], .i .i64 x5.2]) (vcl0 (ref02_Two_ok hx5) Try.call98)) ?_
  refine dv (vex) ?_
  refine dv (vex) ?_
  refine dz ?_
  refine stn ?_ gS_R (by decide)
  refine asd ?_
  refine rn ?_
  refine .gh (Gh.keep [4, 5] rfl) ?_
  refine .ret ?_
  cases h
  exact ⟨_, _, ⟨.inr rfl, gA_R, gS_R, (by decide : (0 : Nat) < 3)⟩, rfl, rfl⟩

def ref02_Div (a0 : RT) (a1 : RT) : Option (RT × Int) := ((ref2Right a0).bind fun x1 => (Option.bind ((if x1 = true then ((ref2Right a1).bind fun x3 => (some (!x3))) else (some true)) : Option (Bool)) fun (z1 : Bool) => (if z1 = true then (some ((false, [], []), 22)) else (if ((decide (((List.length a1.2.1 : Nat) : Int) = 0)) && (decide (((List.length a0.2.1 : Nat) : Int) = 0))) = true then ((ref02_OfInt 1).bind fun x4 => (some (x4, 0))) else (if ((List.length a1.2.1 : Nat) : Int) = 0 then (some ((false, [], []), 3)) else ((r1Mul a0.2.1 a1.2.2).bind fun x5 => ((r1Mul a0.2.2 a1.2.1).bind fun x6 => ((ref2Make (a0.1 != a1.1) x5 x6).bind fun x7 => (some (x7.1, x7.2))))))))))
theorem ref02_Div_ok {a0 : RT} {a1 : RT} {r : RT × Int} (h : ref02_Div a0 a1 = some r) :
    Fn Try.prog 45 [.ag [.b a0.1, .sl (L a0.2.1), .sl (L a0.2.2)], .ag [.b a1.1, .sl (L a1.2.1), .sl (L a1.2.2)]] (.tup [.d (.ag [.b r.1.1, .sl (L r.1.2.1), .sl (L r.1.2.2)]), .d (.i .i64 r.2)]) := by
  unfold ref02_Div at h
  refine Fn.ofC (rs := [.cell 4 25, .tmp 5]) (nt := 52) Try.func45 rfl rfl rfl (by simp) rfl ?_
  refine .seq ?_
  refine .region ?_
  refine vk (vbx) ?_
  refine vk (vbx) ?_
  refine vk (van (zero_of gI_R) gZ_R) ?_
  refine asd ?_
  refine rn ?_
  refine .gh (Gh.keep [2, 3, 4, 5] rfl) ?_
  refine .seq ?_
  refine .block ?_
  refine .seq ?_
  obtain ⟨x1, hx1, h⟩ := bnd h
  obtain ⟨z1, hz, h⟩ := bnd h
  refine AW.mr (σ := Unit) (fun _ => True) (fun _ => [(2, .d (.ptr [.b a0.1, .sl (L a0.2.1), .sl (L a0.2.2)])), (3, .d (.ptr [.b a1.1, .sl (L a1.2.1), .sl (L a1.2.2)])), (4, .nb [.b false, .sl (L []), .sl (L [])]), (5, .d (.i .i64 0)), (6, .d (.b z1))]) (fun _ => []) ?_ ?_
  · skip
    refine .region ?_
    refine vk (vlda gA_R gS_R) ?_
    refine vk (vcl0 (ref2Right_ok hx1) Try.call20) ?_
    refine vk (vnt) ?_
    by_cases hc : x1 = true
    · replace hz := ite_t hc hz
      have hb0 : (!x1) = false := (ntf hc)
      refine vk (VOK.lit (vmvd) hb0) ?_
      refine vk (vlda gA_R gS_R) ?_
      obtain ⟨x3, hx3, hz⟩ := bnd hz
      refine vk (vcl0 (ref2Right_ok hx3) Try.call20) ?_
      refine vk (vnt) ?_
      refine vk (vpkd) ?_
      refine asd ?_
      refine RL.gh (Gh.keep [2, 3, 4, 5, 6] rfl) ?_
      refine .nil ?_
      cases hz
      exact jr () trivial
    replace hz := ite_f hc hz
    have hb0 : (!x1) = true := (ntt (bf hc))
    refine vk (VOK.lit (vmvd) hb0) ?_
    refine gf ?_
    refine gf ?_
    refine gf ?_
    refine vk (vpkd) ?_
    refine asd ?_
    refine RL.gh (Gh.keep [2, 3, 4, 5, 6] rfl) ?_
    refine .nil ?_
    cases hz
    exact jr () trivial
  rintro _ _
  by_cases hc : z1 = true
  · replace h := ite_t hc h
    refine cnt hc ?_
    refine .seq ?_
    refine .region ?_
    refine vk (vbd gP_R gI_R gZ_R) ?_
    refine stn ?_ gS_R (by decide)
    refine asd ?_
    refine rn ?_
    refine .gh (Gh.keep [2, 3, 4, 5] rfl) ?_
    refine .ret ?_
    cases h
    exact ⟨_, _, ⟨.inr rfl, gA_R, gS_R, (by decide : (0 : Nat) < 3)⟩, rfl, rfl⟩
  replace h := ite_f hc h
  refine cnf (bf hc) ?_
  refine .seq ?_
  refine AW.mr (σ := Unit) (fun _ => True) (fun _ => [(2, .d (.ptr [.b a0.1, .sl (L a0.2.1), .sl (L a0.2.2)])), (3, .d (.ptr [.b a1.1, .sl (L a1.2.1), .sl (L a1.2.2)])), (4, .nb [.b false, .sl (L []), .sl (L [])]), (5, .d (.i .i64 0)), (16, .d (.b ((decide (((List.length a1.2.1 : Nat) : Int) = 0)) && (decide (((List.length a0.2.1 : Nat) : Int) = 0)))))]) (fun _ => []) ?_ ?_
  · skip
    refine .region ?_
    refine vk (vfa gF_R_1) ?_
    refine vk (vldp ga_L) ?_
    refine vk (vlnE (L_length _) (L_sz _) gu_L) ?_
    refine vk (vbi) ?_
    by_cases hc : ((List.length a1.2.1 : Nat) : Int) = 0
    · have hb0 : (decide (((List.length a1.2.1 : Nat) : Int) = 0)) = true := (decide_eq_true hc)
      refine vk (VOK.lit (vmvd) hb0) ?_
      refine vk (vfa gF_R_1) ?_
      refine vk (vldp ga_L) ?_
      refine vk (vlnE (L_length _) (L_sz _) gu_L) ?_
      refine vk (vbi) ?_
      refine vk (vpkd) ?_
      refine asd ?_
      refine RL.gh (Gh.keep [2, 3, 4, 5, 16] rfl) ?_
      refine .nil ?_
      exact jr () trivial (by simp only [hb0]; rfl)
    have hb0 : (decide (((List.length a1.2.1 : Nat) : Int) = 0)) = false := (decide_eq_false hc)
    refine vk (VOK.lit (vmvd) hb0) ?_
    refine gf ?_
    refine gf ?_
    refine gf ?_
    refine gf ?_
    refine vk (vpkd) ?_
    refine asd ?_
    refine RL.gh (Gh.keep [2, 3, 4, 5, 16] rfl) ?_
    refine .nil ?_
    exact jr () trivial (by simp only [hb0]; rfl)
  rintro _ _
  by_cases hc : ((decide (((List.length a1.2.1 : Nat) : Int) = 0)) && (decide (((List.length a0.2.1 : Nat) : Int) = 0))) = true
  · replace h := ite_t hc h
    refine cnt hc ?_
    refine .seq ?_
    refine .region ?_
    obtain ⟨x4, hx4, h⟩ := bnd h
    refine vk (vcl0 (ref02_OfInt_ok hx4) Try.call29) ?_
    refine stn ?_ gS_R (by decide)
    refine asd ?_
    refine rn ?_
    refine .gh (Gh.keep [2, 3, 4, 5] rfl) ?_
    refine .ret ?_
    cases h
    exact ⟨_, _, ⟨.inr rfl, gA_R, gS_R, (by decide : (0 : Nat) < 3)⟩, rfl, rfl⟩
  replace h := ite_f hc h
  refine cnf (bf hc) ?_
  refine .seq ?_
  refine .region ?_
  refine vk (vfa gF_R_1) ?_
  refine vk (vldp ga_L) ?_
  refine vk (vlnE (L_length _) (L_sz _) gu_L) ?_
  refine vk (vbi) ?_
  refine asd ?_
  refine rn ?_
  refine .gh (Gh.keep [2, 3, 4, 5, 28] rfl) ?_
  by_cases hc : ((List.length a1.2.1 : Nat) : Int) = 0
  · replace h := ite_t hc h
    refine cnt (decide_eq_true hc) ?_
    refine .seq ?_
    refine .region ?_
    refine vk (vbd gP_R gI_R gZ_R) ?_
    refine stn ?_ gS_R (by decide)
    refine asd ?_
    refine rn ?_
    refine .gh (Gh.keep [2, 3, 4, 5] rfl) ?_
    refine .ret ?_
    cases h
    exact ⟨_, _, ⟨.inr rfl, gA_R, gS_R, (by decide : (0 : Nat) < 3)⟩, rfl, rfl⟩
  replace h := ite_f hc h
  refine cnf (decide_eq_false hc) ?_
  refine .skip ?_
  show AW _ _ _ _ _ _
  refine .seq ?_
  refine .drawn 18 mixed (by kernel_rfl) ?_
  refine dv (vfa gF_R_0) ?_
  refine dv (vldp ga_bool) ?_
  refine dv (vfa gF_R_0) ?_
  refine dv (vldp ga_bool) ?_
  refine dv (vbbn (.inr rfl) bo) ?_
  refine dv (vfa gF_R_1) ?_
  refine dv (vldp ga_L) ?_
  refine dv (vfa gF_R_2) ?_
  refine dv (vldp ga_L) ?_
  obtain ⟨x5, hx5, h⟩ := bnd h
  refine dv ((vcl0 (r1Mul_ok hx5) Try.call76).deep) ?_
  refine dv (vfa gF_R_2) ?_
  refine dv (vldp ga_L) ?_
  refine dv (vfa gF_R_1) ?_
  refine dv (vldp ga_L) ?_
  obtain ⟨x6, hx6, h⟩ := bnd h
  refine dv ((vcl0 (r1Mul_ok hx6) Try.call76).deep) ?_
  obtain ⟨x7, hx7, h⟩ := bnd h
  refine dv (VOK.tupd (vs := [.ag [.b x7.1.1, .sl (L x7.1.2.1), .sl (L x7.1.2.2)], .i .i64 x7.2]) (vcl0 (ref2Make_ok hx7) Try.call17)) ?_
  refine dv (vex) ?_
  refine dv (vex) ?_
  refine dz ?_
  refine stn ?_ gS_R (by decide)
  refine asd ?_
  refine rn ?_
  refine .gh (Gh.keep [4, 5] rfl) ?_
  refine .ret ?_
  cases h
  exact ⟨_, _, ⟨.inr rfl, gA_R, gS_R, (by decide : (0 : Nat) < 3)⟩, rfl, rfl⟩

def ref02_Neg (a0 : RT) : Option (RT × Int) := ((ref2Right a0).bind fun x1 => (if x1 = true then ((ref02_neg a0).bind fun x2 => (some (x2, 0))) else (some ((false, [], []), 22))))
theorem ref02_Neg_ok {a0 : RT} {r : RT × Int} (h : ref02_Neg a0 = some r) :
    Fn Try.prog 51 [.ag [.b a0.1, .sl (L a0.2.1), .sl (L a0.2.2)]] (.tup [.d (.ag [.b r.1.1, .sl (L r.1.2.1), .sl (L r.1.2.2)]), .d (.i .i64 r.2)]) := by
  unfold ref02_Neg at h
  refine Fn.ofC (rs := [.cell 2 25, .tmp 3]) (nt := 10) Try.func51 rfl rfl rfl (by simp) rfl ?_
  refine .seq ?_
  refine .region ?_
  refine vk (vbx) ?_
  refine vk (van (zero_of gI_R) gZ_R) ?_
  refine asd ?_
  refine rn ?_
  refine .gh (Gh.keep [1, 2, 3] rfl) ?_
  refine .seq ?_
  refine .seq ?_
  refine .region ?_
  refine vk (vlda gA_R gS_R) ?_
  obtain ⟨x1, hx1, h⟩ := bnd h
  refine vk (vcl0 (ref2Right_ok hx1) Try.call20) ?_
  refine vk (vnt) ?_
  refine rn ?_
  refine .gh (Gh.keep [1, 2, 3, 6] rfl) ?_
  by_cases hc : x1 = true
  · replace h := ite_t hc h
    refine cnf (ntf hc) ?_
    refine .skip ?_
    show AW _ _ _ _ _ _
    refine .seq ?_
    refine .region ?_
    refine vk (vlda gA_R gS_R) ?_
    obtain ⟨x2, hx2, h⟩ := bnd h
    refine vk (vcl0 (ref02_neg_ok hx2) Try.call101) ?_
    refine stn ?_ gS_R (by decide)
    refine asd ?_
    refine rn ?_
    refine .gh (Gh.keep [2, 3] rfl) ?_
    refine .ret ?_
    cases h
    exact ⟨_, _, ⟨.inr rfl, gA_R, gS_R, (by decide : (0 : Nat) < 3)⟩, rfl, rfl⟩
  replace h := ite_f hc h
  refine cnt (ntt (bf hc)) ?_
  refine .seq ?_
  refine .region ?_
  refine vk (vbd gP_R gI_R gZ_R) ?_
  refine stn ?_ gS_R (by decide)
  refine asd ?_
  refine rn ?_
  refine .gh (Gh.keep [1, 2, 3] rfl) ?_
  refine .ret ?_
  cases h
  exact ⟨_, _, ⟨.inr rfl, gA_R, gS_R, (by decide : (0 : Nat) < 3)⟩, rfl, rfl⟩

def ref02_Abs (a0 : RT) : Option (RT × Int) := ((ref2Right a0).bind fun x1 => (if x1 = true then ((ref02_copied a0).bind fun x2 => (some ((false, x2.2.1, x2.2.2), 0))) else (some ((false, [], []), 22))))
theorem ref02_Abs_ok {a0 : RT} {r : RT × Int} (h : ref02_Abs a0 = some r) :
    Fn Try.prog 53 [.ag [.b a0.1, .sl (L a0.2.1), .sl (L a0.2.2)]] (.tup [.d (.ag [.b r.1.1, .sl (L r.1.2.1), .sl (L r.1.2.2)]), .d (.i .i64 r.2)]) := by
  unfold ref02_Abs at h
  refine Fn.ofC (rs := [.cell 2 25, .tmp 3]) (nt := 13) Try.func53 rfl rfl rfl (by simp) rfl ?_
  refine .seq ?_
  refine .region ?_
  refine vk (vbx) ?_
  refine vk (van (zero_of gI_R) gZ_R) ?_
  refine asd ?_
  refine rn ?_
  refine .gh (Gh.keep [1, 2, 3] rfl) ?_
  refine .seq ?_
  refine .seq ?_
  refine .region ?_
  refine vk (vlda gA_R gS_R) ?_
  obtain ⟨x1, hx1, h⟩ := bnd h
  refine vk (vcl0 (ref2Right_ok hx1) Try.call20) ?_
  refine vk (vnt) ?_
  refine rn ?_
  refine .gh (Gh.keep [1, 2, 3, 7] rfl) ?_
  by_cases hc : x1 = true
  · replace h := ite_t hc h
    refine cnf (ntf hc) ?_
    refine .skip ?_
    show AW _ _ _ _ _ _
    refine .seq ?_
    refine .region ?_
    refine vk (vlda gA_R gS_R) ?_
    obtain ⟨x2, hx2, h⟩ := bnd h
    refine vk (vcl0 (ref02_copied_ok hx2) Try.call107) ?_
    refine vk (van (zero_of gI_R) gZ_R) ?_
    refine stn ?_ gS_R (by decide)
    refine RL.gh2 (Gh.nbb (t := 4) rfl) ?_
    refine rn ?_
    refine .gh (Gh.keep [2, 3, 4] rfl) ?_
    refine .seq ?_
    refine .region ?_
    refine vk (vfab gF_R_0) ?_
    refine stb (cs := [.d (.b x2.1), .d (.sl (L x2.2.1)), .d (.sl (L x2.2.2))]) (c := .d (.b x2.1)) rfl rfl ?_ gz_bool
    refine rn ?_
    refine .gh (Gh.keep [2, 3, 4] rfl) ?_
    refine .seq ?_
    refine .region ?_
    refine vk (vldba (cs := [.d (.b false), .d (.sl (L x2.2.1)), .d (.sl (L x2.2.2))]) (ds := [.b false, .sl (L x2.2.1), .sl (L x2.2.2)]) rfl gA_R gS_R) ?_
    refine stn ?_ gS_R (by decide)
    refine asd ?_
    refine rn ?_
    refine .gh (Gh.keep [2, 3] rfl) ?_
    refine .ret ?_
    cases h
    exact ⟨_, _, ⟨.inr rfl, gA_R, gS_R, (by decide : (0 : Nat) < 3)⟩, rfl, rfl⟩
  replace h := ite_f hc h
  refine cnt (ntt (bf hc)) ?_
  refine .seq ?_
  refine .region ?_
  refine vk (vbd gP_R gI_R gZ_R) ?_
  refine stn ?_ gS_R (by decide)
  refine asd ?_
  refine rn ?_
  refine .gh (Gh.keep [1, 2, 3] rfl) ?_
  refine .ret ?_
  cases h
  exact ⟨_, _, ⟨.inr rfl, gA_R, gS_R, (by decide : (0 : Nat) < 3)⟩, rfl, rfl⟩

def ref02_Floor (a0 : RT) : Option (RT × Int) := ((ref2Right a0).bind fun x1 => (if x1 = true then ((r1DivMod a0.2.1 a0.2.2).bind fun x2 => (if (a0.1 && (decide (0 < ((List.length x2.2.1 : Nat) : Int)))) = true then (ref2One.bind fun x3 => ((r1Add x2.1 x3).bind fun x4 => (ref2One.bind fun x5 => ((ref2Make a0.1 x4 x5).bind fun x6 => (some (x6.1, x6.2)))))) else (ref2One.bind fun x7 => ((ref2Make a0.1 x2.1 x7).bind fun x8 => (some (x8.1, x8.2)))))) else (some ((false, [], []), 22))))
theorem ref02_Floor_ok {a0 : RT} {r : RT × Int} (h : ref02_Floor a0 = some r) :
    Fn Try.prog 57 [.ag [.b a0.1, .sl (L a0.2.1), .sl (L a0.2.2)]] (.tup [.d (.ag [.b r.1.1, .sl (L r.1.2.1), .sl (L r.1.2.2)]), .d (.i .i64 r.2)]) := by
  unfold ref02_Floor at h
  refine Fn.ofC (rs := [.cell 2 25, .tmp 3]) (nt := 37) Try.func57 rfl rfl rfl (by simp) rfl ?_
  refine .seq ?_
  refine .region ?_
  refine vk (vbx) ?_
  refine vk (van (zero_of gI_R) gZ_R) ?_
  refine asd ?_
  refine rn ?_
  refine .gh (Gh.keep [1, 2, 3] rfl) ?_
  refine .seq ?_
  refine .seq ?_
  refine .region ?_
  refine vk (vlda gA_R gS_R) ?_
  obtain ⟨x1, hx1, h⟩ := bnd h
  refine vk (vcl0 (ref2Right_ok hx1) Try.call20) ?_
  refine vk (vnt) ?_
  refine rn ?_
  refine .gh (Gh.keep [1, 2, 3, 9] rfl) ?_
  by_cases hc : x1 = true
  · replace h := ite_t hc h
    refine cnf (ntf hc) ?_
    refine .skip ?_
    show AW _ _ _ _ _ _
    refine .seq ?_
    refine .region ?_
    refine vk (vfa gF_R_1) ?_
    refine vk (vldp ga_L) ?_
    refine vk (vfa gF_R_2) ?_
    refine vk (vldp ga_L) ?_
    obtain ⟨x2, hx2, h⟩ := bnd h
    refine vk (VOK.tupd (vs := [.sl (L x2.1), .sl (L x2.2.1), .b x2.2.2]) (vcl0 (r1DivMod_ok hx2) Try.call63)) ?_
    refine vk (vmvd) ?_
    refine vk (vex) ?_
    refine vk (vex) ?_
    refine vk (vex) ?_
    refine asd ?_
    refine asd ?_
    refine asd ?_
    refine rn ?_
    refine .gh (Gh.keep [1, 2, 3, 4, 5] rfl) ?_
    refine .seq ?_
    refine .seq ?_
    refine AW.mr (σ := Unit) (fun _ => True) (fun _ => [(1, .d (.ptr [.b a0.1, .sl (L a0.2.1), .sl (L a0.2.2)])), (2, .nb [.b false, .sl (L []), .sl (L [])]), (3, .d (.i .i64 0)), (4, .d (.sl (L x2.1))), (26, .d (.b (a0.1 && (decide (0 < ((List.length x2.2.1 : Nat) : Int))))))]) (fun _ => []) ?_ ?_
    · skip
      refine .region ?_
      refine vk (vfa gF_R_0) ?_
      refine vk (vldp ga_bool) ?_
      by_cases hc : a0.1 = true
      · have hb0 : a0.1 = true := hc
        refine vk (VOK.lit (vmvd) hb0) ?_
        refine vk (vmvd) ?_
        refine vk (vlnE (L_length _) (L_sz _) gu_L) ?_
        refine vk (vbi) ?_
        refine vk (vpkd) ?_
        refine RL.gh (Gh.keep [1, 2, 3, 4, 26] rfl) ?_
        refine .nil ?_
        exact jr () trivial (by simp only [hb0]; rfl)
      have hb0 : a0.1 = false := (bf hc)
      refine vk (VOK.lit (vmvd) hb0) ?_
      refine gf ?_
      refine gf ?_
      refine gf ?_
      refine vk (vpkd) ?_
      refine RL.gh (Gh.keep [1, 2, 3, 4, 26] rfl) ?_
      refine .nil ?_
      exact jr () trivial (by simp only [hb0]; rfl)
    rintro _ _
    by_cases hc : (a0.1 && (decide (0 < ((List.length x2.2.1 : Nat) : Int)))) = true
    · replace h := ite_t hc h
      refine cnt hc ?_
      refine .region ?_
      refine vk (vmvd) ?_
      obtain ⟨x3, hx3, h⟩ := bnd h
      refine vk ((vcl0 (ref2One_ok hx3) Try.call69).deep) ?_
      obtain ⟨x4, hx4, h⟩ := bnd h
      refine vk ((vcl0 (r1Add_ok hx4) Try.call77).deep) ?_
      refine asd ?_
      refine rn ?_
      refine .gh (Gh.keep [1, 2, 3, 4] rfl) ?_
      refine .seq ?_
      refine .drawn 7 mixed (by kernel_rfl) ?_
      refine dv (vfa gF_R_0) ?_
      refine dv (vldp ga_bool) ?_
      refine dv (vmvd) ?_
      obtain ⟨x5, hx5, h⟩ := bnd h
      refine dv ((vcl0 (ref2One_ok hx5) Try.call69).deep) ?_
      obtain ⟨x6, hx6, h⟩ := bnd h
      refine dv (VOK.tupd (vs := [.ag [.b x6.1.1, .sl (L x6.1.2.1), .sl (L x6.1.2.2)], .i .i64 x6.2]) (vcl0 (ref2Make_ok hx6) Try.call17)) ?_
      refine dv (vex) ?_
      refine dv (vex) ?_
      refine dz ?_
      refine stn ?_ gS_R (by decide)
      refine asd ?_
      refine rn ?_
      refine .gh (Gh.keep [2, 3] rfl) ?_
      refine .ret ?_
      cases h
      exact ⟨_, _, ⟨.inr rfl, gA_R, gS_R, (by decide : (0 : Nat) < 3)⟩, rfl, rfl⟩
    replace h := ite_f hc h
    refine cnf (bf hc) ?_
    refine .skip ?_
    show AW _ _ _ _ _ _
    refine .seq ?_
    refine .drawn 7 mixed (by kernel_rfl) ?_
    refine dv (vfa gF_R_0) ?_
    refine dv (vldp ga_bool) ?_
    refine dv (vmvd) ?_
    obtain ⟨x7, hx7, h⟩ := bnd h
    refine dv ((vcl0 (ref2One_ok hx7) Try.call69).deep) ?_
    obtain ⟨x8, hx8, h⟩ := bnd h
    refine dv (VOK.tupd (vs := [.ag [.b x8.1.1, .sl (L x8.1.2.1), .sl (L x8.1.2.2)], .i .i64 x8.2]) (vcl0 (ref2Make_ok hx8) Try.call17)) ?_
    refine dv (vex) ?_
    refine dv (vex) ?_
    refine dz ?_
    refine stn ?_ gS_R (by decide)
    refine asd ?_
    refine rn ?_
    refine .gh (Gh.keep [2, 3] rfl) ?_
    refine .ret ?_
    cases h
    exact ⟨_, _, ⟨.inr rfl, gA_R, gS_R, (by decide : (0 : Nat) < 3)⟩, rfl, rfl⟩
  replace h := ite_f hc h
  refine cnt (ntt (bf hc)) ?_
  refine .seq ?_
  refine .region ?_
  refine vk (vbd gP_R gI_R gZ_R) ?_
  refine stn ?_ gS_R (by decide)
  refine asd ?_
  refine rn ?_
  refine .gh (Gh.keep [1, 2, 3] rfl) ?_
  refine .ret ?_
  cases h
  exact ⟨_, _, ⟨.inr rfl, gA_R, gS_R, (by decide : (0 : Nat) < 3)⟩, rfl, rfl⟩

def ref02_Ceil (a0 : RT) : Option (RT × Int) := ((ref2Right a0).bind fun x1 => (if x1 = true then ((ref02_neg a0).bind fun x2 => ((ref02_Floor x2).bind fun x3 => (if x3.2 = 0 then ((ref02_neg x3.1).bind fun x4 => (some (x4, 0))) else (some ((false, [], []), x3.2))))) else (some ((false, [], []), 22))))
theorem ref02_Ceil_ok {a0 : RT} {r : RT × Int} (h : ref02_Ceil a0 = some r) :
    Fn Try.prog 55 [.ag [.b a0.1, .sl (L a0.2.1), .sl (L a0.2.2)]] (.tup [.d (.ag [.b r.1.1, .sl (L r.1.2.1), .sl (L r.1.2.2)]), .d (.i .i64 r.2)]) := by
  unfold ref02_Ceil at h
  refine Fn.ofC (rs := [.cell 2 25, .tmp 3]) (nt := 22) Try.func55 rfl rfl rfl (by simp) rfl ?_
  refine .seq ?_
  refine .region ?_
  refine vk (vbx) ?_
  refine vk (van (zero_of gI_R) gZ_R) ?_
  refine asd ?_
  refine rn ?_
  refine .gh (Gh.keep [1, 2, 3] rfl) ?_
  refine .seq ?_
  refine .seq ?_
  refine .region ?_
  refine vk (vlda gA_R gS_R) ?_
  obtain ⟨x1, hx1, h⟩ := bnd h
  refine vk (vcl0 (ref2Right_ok hx1) Try.call20) ?_
  refine vk (vnt) ?_
  refine rn ?_
  refine .gh (Gh.keep [1, 2, 3, 8] rfl) ?_
  by_cases hc : x1 = true
  · replace h := ite_t hc h
    refine cnf (ntf hc) ?_
    refine .skip ?_
    show AW _ _ _ _ _ _
    refine .seq ?_
    refine .region ?_
    refine vk (vlda gA_R gS_R) ?_
    obtain ⟨x2, hx2, h⟩ := bnd h
    refine vk (vcl0 (ref02_neg_ok hx2) Try.call101) ?_
    obtain ⟨x3, hx3, h⟩ := bnd h
    refine vk (VOK.tupd (vs := [.ag [.b x3.1.1, .sl (L x3.1.2.1), .sl (L x3.1.2.2)], .i .i64 x3.2]) (vcl0 (ref02_Floor_ok hx3) Try.call57)) ?_
    refine vk (vmvd) ?_
    refine vk (vex) ?_
    refine vk (vex) ?_
    refine vk (van (zero_of gI_R) gZ_R) ?_
    refine stn ?_ gS_R (by decide)
    refine asd ?_
    refine rn ?_
    refine .gh (Gh.keep [2, 3, 4, 5] rfl) ?_
    refine .seq ?_
    refine .seq ?_
    refine .region ?_
    refine vk (vmvd) ?_
    refine vk (vbi) ?_
    refine rn ?_
    refine .gh (Gh.keep [2, 3, 4, 5, 17] rfl) ?_
    by_cases hc : x3.2 = 0
    · replace h := ite_t hc h
      refine cnf (ntf (decide_eq_true hc)) ?_
      refine .skip ?_
      show AW _ _ _ _ _ _
      refine .seq ?_
      refine .region ?_
      refine vk (vldn gA_R gS_R) ?_
      obtain ⟨x4, hx4, h⟩ := bnd h
      refine vk (vcl0 (ref02_neg_ok hx4) Try.call101) ?_
      refine stn ?_ gS_R (by decide)
      refine asd ?_
      refine rn ?_
      refine .gh (Gh.keep [2, 3] rfl) ?_
      refine .ret ?_
      cases h
      exact ⟨_, _, ⟨.inr rfl, gA_R, gS_R, (by decide : (0 : Nat) < 3)⟩, rfl, rfl⟩
    replace h := ite_f hc h
    refine cnt (ntt (decide_eq_false hc)) ?_
    refine .seq ?_
    refine .region ?_
    refine vk (vbd gP_R gI_R gZ_R) ?_
    refine vk (vmvd) ?_
    refine stn ?_ gS_R (by decide)
    refine asd ?_
    refine rn ?_
    refine .gh (Gh.keep [2, 3, 4] rfl) ?_
    refine .ret ?_
    cases h
    exact ⟨_, _, ⟨.inr rfl, gA_R, gS_R, (by decide : (0 : Nat) < 3)⟩, rfl, rfl⟩
  replace h := ite_f hc h
  refine cnt (ntt (bf hc)) ?_
  refine .seq ?_
  refine .region ?_
  refine vk (vbd gP_R gI_R gZ_R) ?_
  refine stn ?_ gS_R (by decide)
  refine asd ?_
  refine rn ?_
  refine .gh (Gh.keep [1, 2, 3] rfl) ?_
  refine .ret ?_
  cases h
  exact ⟨_, _, ⟨.inr rfl, gA_R, gS_R, (by decide : (0 : Nat) < 3)⟩, rfl, rfl⟩

end Go.FL
/-
  Plain laws, rat 5: the reference's numbers.
-/
namespace Go.FL
open Go Go.Proofs

theorem r1Mul_eq {m n : Nat} (hm : (digs m).length ≤ 400000) (hn : (digs n).length ≤ 400000) : r1Mul (digs m) (digs n) = some (digs (m * n)) := by
  have : r1Mul (digs m) (digs n) = some (digs (val (digs m) * val (digs n))) := if_pos (by rw [Bool.and_eq_true]; exact ⟨okL_digs hm, okL_digs hn⟩)
  rw [this, val_digs, val_digs]
theorem r1Add_eq {m n : Nat} (hm : (digs m).length ≤ 500000) (hn : (digs n).length ≤ 500000) : r1Add (digs m) (digs n) = some (digs (m + n)) := by
  have : r1Add (digs m) (digs n) = some (digs (val (digs m) + val (digs n))) := if_pos (by rw [Bool.and_eq_true]; exact ⟨okL_digs hm, okL_digs hn⟩)
  rw [this, val_digs, val_digs]
theorem r1Compare_eq {m n : Nat} (hm : (digs m).length ≤ 500000) (hn : (digs n).length ≤ 500000) : r1Compare (digs m) (digs n) = some (cmpN m n) := by
  have : r1Compare (digs m) (digs n) = some (cmpN (val (digs m)) (val (digs n))) := if_pos (by rw [Bool.and_eq_true]; exact ⟨okL_digs (by omega), okL_digs (by omega)⟩)
  rw [this, val_digs, val_digs]
theorem r1Minus_eq {m n : Nat} (hm : (digs m).length ≤ 500000) (hn : (digs n).length ≤ 500000) : r1Minus (digs m) (digs n) = some (digs (minN m n), decide (n ≤ m)) := by
  have : r1Minus (digs m) (digs n) = some (digs (minN (val (digs m)) (val (digs n))), decide (val (digs n) ≤ val (digs m))) := if_pos (by rw [Bool.and_eq_true]; exact ⟨okL_digs hm, okL_digs hn⟩)
  rw [this, val_digs, val_digs]
theorem r1Trim_eq {m : Nat} (hm : (digs m).length ≤ 500000) : r1Trim (digs m) = some (digs m) := by
  have : r1Trim (digs m) = some (digs (val (digs m))) := if_pos (okL_digs (by omega))
  rw [this, val_digs]
theorem r1DivMod_eq {m n : Nat} (hm : (digs m).length ≤ 100000) (hn : (digs n).length ≤ 100000) (h : n ≠ 0) : r1DivMod (digs m) (digs n) = some (digs (m / n), digs (m % n), true) := by
  have : r1DivMod (digs m) (digs n) = some (digs (val (digs m) / val (digs n)), digs (remN (val (digs m)) (val (digs n))), decide (val (digs n) ≠ 0)) := if_pos (by rw [Bool.and_eq_true]; exact ⟨okL_digs hm, okL_digs hn⟩)
  rw [this, val_digs, val_digs, remN_eq h, decide_eq_true h]
/-- Two sizes with signs, together. -/
def signN (a : Nat) (c : Bool) (b : Nat) (d : Bool) : Nat × Bool := if c = d then (a + b, c) else if b ≤ a then (a - b, c) else (b - a, d)
theorem signN_sg (a : Nat) (c : Bool) (b : Nat) (d : Bool) : sg (signN a c b d).2 (signN a c b d).1 = sg c a + sg d b := by
  unfold signN
  split
  · rename_i h; subst h; cases c <;> simp [sg]; omega
  · rename_i h
    split
    · rename_i h2
      cases c <;> cases d <;> simp [sg] at h ⊢ <;> omega
    · rename_i h2
      cases c <;> cases d <;> simp [sg] at h ⊢ <;> omega
theorem signN_le (a : Nat) (c : Bool) (b : Nat) (d : Bool) : (signN a c b d).1 ≤ a + b := by
  unfold signN; split
  · exact Nat.le_refl _
  · split <;> simp <;> omega
theorem signed_eq {a b : Nat} (c d : Bool) (ha : (digs a).length ≤ 500000) (hb : (digs b).length ≤ 500000) : ref02_signed (digs a) c (digs b) d = some (digs (signN a c b d).1, (signN a c b d).2) := by
  unfold ref02_signed signN
  by_cases h : c = d
  · subst h
    rw [if_pos (by simp), if_pos rfl, r1Add_eq ha hb]; rfl
  · rw [if_neg (by simpa using h), if_neg h, r1Compare_eq ha hb, Option.bind_some]
    by_cases h2 : b ≤ a
    · have : 0 ≤ cmpN a b := by unfold cmpN; rw [if_neg (by omega)]; split <;> decide
      rw [if_pos this, if_pos h2, r1Minus_eq ha hb, Option.bind_some, minN, if_pos h2]
    · have : ¬ 0 ≤ cmpN a b := by unfold cmpN; rw [if_pos (by omega)]; decide
      rw [if_neg this, if_neg h2, r1Minus_eq hb ha, Option.bind_some, minN, if_pos (by omega)]
theorem ref2Make_eq {b : Bool} {n d : Nat} (hn : (digs n).length ≤ 100000) (hd : (digs d).length ≤ 100000) (h : d ≠ 0) : ref2Make b (digs n) (digs d) = some (resR (mkRat (sg b n) d)) := by
  have : ref2Make b (digs n) (digs d) = some (resQ (makeE b (val (digs n)) (val (digs d)))) := if_pos (by rw [Bool.and_eq_true]; exact ⟨okL_digs hn, okL_digs hd⟩)
  rw [this, val_digs, val_digs, makeE, if_neg h, lowE_rat h, resQ_lowR]
theorem len2 {a b : Nat} {k : Nat} (ha : (digs a).length ≤ k) (hb : (digs b).length ≤ k) : (digs (a * b)).length ≤ 2 * k := by
  have := mul_len (digs_ok a) (digs_ok b) ha hb
  rwa [val_digs, val_digs] at this
theorem num_sg (p : Rat) : sg (decide (p.num < 0)) p.num.natAbs = p.num := by
  simp only [sg, decide_eq_true_eq]; split <;> omega
theorem sg_mul (b : Bool) (n m : Nat) : sg b (n * m) = sg b n * (m : Int) := by cases b <;> simp [sg, Int.neg_mul]
theorem two_q {p q : Rat} (hp : fits p) (hq : fits q) : ref02_Two (ofQ p) (ofQ q) = some (resR (p + q)) := by
  unfold ref02_Two
  have l1 := len2 hp.1 hq.2
  have l2 := len2 hq.1 hp.2
  have l3 := len2 hp.2 hq.2
  have hs := signN_sg (p.num.natAbs * q.den) (decide (p.num < 0)) (q.num.natAbs * p.den) (decide (q.num < 0))
  have hl := signN_le (p.num.natAbs * q.den) (decide (p.num < 0)) (q.num.natAbs * p.den) (decide (q.num < 0))
  have hl2 := Nat.le_trans (digs_mono hl) (add_len l1 l2)
  refine bind_eq (r1Mul_eq (Nat.le_trans hp.1 (by decide)) (Nat.le_trans hq.2 (by decide))) (bind_eq (r1Mul_eq (Nat.le_trans hq.1 (by decide)) (Nat.le_trans hp.2 (by decide))) (bind_eq (signed_eq _ _ (by omega) (by omega))
    (bind_eq (r1Mul_eq (Nat.le_trans hp.2 (by decide)) (Nat.le_trans hq.2 (by decide))) (bind_eq (ref2Make_eq (Nat.le_trans hl2 (by decide)) (by omega) (Nat.mul_ne_zero p.den_nz q.den_nz)) ?_))))
  have e : p + q = mkRat (sg (signN (p.num.natAbs * q.den) (decide (p.num < 0)) (q.num.natAbs * p.den) (decide (q.num < 0))).2 (signN (p.num.natAbs * q.den) (decide (p.num < 0)) (q.num.natAbs * p.den) (decide (q.num < 0))).1) (p.den * q.den) := by
    rw [Rat.add_def', hs]
    congr 1
    rw [sg_mul, sg_mul, num_sg, num_sg]
  rw [e]; rfl
theorem ref_times_q {p q : Rat} (hp : fits p) (hq : fits q) : ref02_Times (ofQ p) (ofQ q) = some (resR (p * q)) := by
  unfold ref02_Times
  have l1 := len2 hp.1 hq.1
  have l3 := len2 hp.2 hq.2
  refine bind_eq (r1Mul_eq (Nat.le_trans hp.1 (by decide)) (Nat.le_trans hq.1 (by decide))) (bind_eq (r1Mul_eq (Nat.le_trans hp.2 (by decide)) (Nat.le_trans hq.2 (by decide))) (bind_eq (ref2Make_eq (by omega) (by omega) (Nat.mul_ne_zero p.den_nz q.den_nz)) ?_))
  have h : sg ((ofQ p).1 != (ofQ q).1) (p.num.natAbs * q.num.natAbs) = p.num * q.num := by
    rw [← num_sg p, ← num_sg q]
    simp only [num_sg, ofQ]
    have e1 := num_sg p
    have e2 := num_sg q
    cases h1 : decide (p.num < 0) <;> cases h2 : decide (q.num < 0) <;> rw [h1] at e1 <;> rw [h2] at e2 <;> rw [← e1, ← e2] <;> simp [sg, Int.neg_mul, Int.mul_neg]
  rw [h, Rat.mul_def']
theorem ref_copied_q {p : Rat} (hp : fits p) : ref02_copied (ofQ p) = some (ofQ p) := by
  unfold ref02_copied
  exact bind_eq (r1Trim_eq (Nat.le_trans hp.1 (by decide))) (bind_eq (r1Trim_eq (Nat.le_trans hp.2 (by decide))) rfl)
theorem ref_neg_q {p : Rat} (hp : fits p) : ref02_neg (ofQ p) = some (ofQ (-p)) := by
  unfold ref02_neg
  refine bind_eq (ref_copied_q hp) ?_
  have h3 : decide (0 < ((List.length (ofQ p).2.1 : Nat) : Int)) = decide (p ≠ 0) := decide_eq_decide.2 num_pos
  rw [h3, ofQ_neg, ← neg_num_sign]; rfl
theorem right2_eq {a b : RT} (ha : okRB a = true) (hb : okRB b = true) {β : Type} (f : Bool → Option β) : ((ref2Right a).bind fun x1 => Option.bind (if x1 = true then ((ref2Right b).bind fun x3 => some (!x3)) else some true) f) = f (!(rightR a && rightR b)) := by
  rw [ref2Right_eq ha, Option.bind_some]
  cases h : rightR a with
  | false => rfl
  | true => rw [if_pos rfl, ref2Right_eq hb]; rfl
theorem ref_sub_b {a b : RT} (ha : okRB a = true) (hb : okRB b = true) (h : (rightR a && rightR b) = false) : ref02_Sub a b = some (bad 22) := by
  unfold ref02_Sub; rw [right2_eq ha hb, h]; rfl
theorem ref_sub_q {p q : Rat} (hp : fits p) (hq : fits q) : ref02_Sub (ofQ p) (ofQ q) = some (resR (p - q)) := by
  unfold ref02_Sub
  rw [right2_eq (ofQ_okRB hp) (ofQ_okRB hq), two_right hp hq]
  rw [if_neg (by decide)]
  refine bind_eq (ref_neg_q hq) (bind_eq (two_q hp (fits_neg hq)) ?_)
  rw [Rat.sub_eq_add_neg]
theorem ref_ofInt_q {z : Int} (h1 : -9223372036854775808 ≤ z) (h2 : z ≤ 9223372036854775807) : ref02_OfInt z = some (ofQ z) := by
  unfold ref02_OfInt
  have hof : ∀ n : Nat, n < 18446744073709551616 → r1Of (n : Int) = some (digs n) := fun n hn => by
    have : r1Of (n : Int) = some (digs ((n : Int).toNat)) := if_pos (by omega)
    rw [this, Int.toNat_natCast]
  have e : ofQ (z : Rat) = (decide (z < 0), digs z.natAbs, [1]) := by
    show (decide (z < 0), digs z.natAbs, digs 1) = _
    rw [one_digs]
  by_cases h : z < 0
  · rw [if_pos h, u64_neg h h1, hof _ (by omega), ref2One_eq, e]; rfl
  · rw [if_neg h, u64_nn (by omega) h2, hof _ (by omega), ref2One_eq, e]; rfl
theorem ref_div_b {a b : RT} (ha : okRB a = true) (hb : okRB b = true) (h : (rightR a && rightR b) = false) : ref02_Div a b = some (bad 22) := by
  unfold ref02_Div; rw [right2_eq ha hb, h]; rfl
theorem ref_div_q {p q : Rat} (hp : fits p) (hq : fits q) : ref02_Div (ofQ p) (ofQ q) = some (if q = 0 then (if p = 0 then (ofQ 1, 0) else bad 3) else resR (p / q)) := by
  unfold ref02_Div
  rw [right2_eq (ofQ_okRB hp) (ofQ_okRB hq), two_right hp hq]
  rw [if_neg (by decide)]
  by_cases h : q = 0
  · rw [if_pos h]
    by_cases h2 : p = 0
    · rw [if_pos (by rw [decide_eq_true (num_zero.2 h), decide_eq_true (num_zero.2 h2)]; rfl), if_pos h2]
      exact bind_eq (ref_ofInt_q (z := 1) (by decide) (by decide)) rfl
    · rw [if_neg (by rw [decide_eq_false (fun h3 => h2 (num_zero.1 h3))]; simp), if_pos (num_zero.2 h), if_neg h2]
  · rw [if_neg (by rw [decide_eq_false (fun h3 => h (num_zero.1 h3))]; simp), if_neg (fun h3 => h (num_zero.1 h3)), if_neg h]
    have hn : q.num ≠ 0 := fun h2 => h (Rat.num_eq_zero.1 h2)
    have l1 := len2 hp.1 hq.2
    have l3 := len2 hp.2 hq.1
    refine bind_eq (r1Mul_eq (Nat.le_trans hp.1 (by decide)) (Nat.le_trans hq.2 (by decide))) (bind_eq (r1Mul_eq (Nat.le_trans hp.2 (by decide)) (Nat.le_trans hq.1 (by decide))) (bind_eq (ref2Make_eq (by omega) (by omega) (Nat.mul_ne_zero p.den_nz (by omega))) ?_))
    obtain ⟨v1, _⟩ := timesN_rat (x := q3 p) (y := ((q3 q).1, (q3 q).2.2, (q3 q).2.1)) (den_ne p) (by show q.num.natAbs ≠ 0; omega)
    rw [valQ_of, inv_val h, ← Rat.div_def] at v1
    rw [← v1]; rfl
/-! sums of many -/
theorem all_loop (a : List RT) (ha : a.all okRB = true) (hl : a.length ≤ 1048576) : ∀ (d i k : Nat) (s : Bool), a.length - i = d → i ≤ a.length → d < k → ref02_all_l0 a k s (i : Int) = some ((a.drop i).all rightR)
  | 0, i, k, s, h1, h2, h3 => by
    obtain ⟨k, rfl⟩ : ∃ m, k = m + 1 := ⟨k - 1, by omega⟩
    rw [ref02_all_l0, if_neg (by omega), List.drop_eq_nil_of_le (by omega)]; rfl
  | d + 1, i, k, s, h1, h2, h3 => by
    obtain ⟨k, rfl⟩ : ∃ m, k = m + 1 := ⟨k - 1, by omega⟩
    have hi : i < a.length := by omega
    have hr : rd? a (i : Int) = some a[i] := by simp [rd?, hi]
    have hok := List.all_eq_true.1 ha a[i] (List.getElem_mem hi)
    rw [ref02_all_l0, if_pos (by omega), hr, Option.bind_some, ref2Right_eq hok, Option.bind_some, List.drop_eq_getElem_cons hi, List.all_cons]
    cases rightR a[i] with
    | false => rfl
    | true =>
      rw [if_pos rfl, Bool.true_and, show w64 ((i : Int) + 1) = ((i + 1 : Nat) : Int) by rw [w64_eq] <;> omega]
      exact all_loop a ha hl d (i + 1) k s (by omega) (by omega) (by omega)
theorem all_eq {a : List RT} (ha : a.all okRB = true) (hl : a.length ≤ 1048576) : ref02_all a = some (a.all rightR) := by
  have := all_loop a ha hl a.length 0 FUEL false rfl (Nat.zero_le _) (by unfold FUEL; omega)
  rwa [List.drop_zero] at this
theorem fold_loop {f : List RT → Nat → RT → Int → RT → Int → Option (RT × Int)} {two : RT → RT → Option (RT × Int)} {op : Rat → Rat → Rat}
    (hf : ∀ a k s3 s4 s5 s6, f a (k + 1) s3 s4 s5 s6 = (if s6 < ((List.length a : Nat) : Int) then ((rd? a s6).bind fun x7 => ((two s5 x7).bind fun x8 => (if x8.2 = 0 then (f a k s3 s4 x8.1 (w64 (s6 + 1))) else (some ((false, [], []), x8.2))))) else (some (s5, 0))))
    (htwo : ∀ p q : Rat, fits p → fits q → two (ofQ p) (ofQ q) = some (resR (op p q))) (ps : List Rat) (hp : ∀ p ∈ ps, fits p) (hl : ps.length ≤ 1048576) (s3 : RT) (s4 : Int) :
    ∀ (d i k : Nat) (s : Rat), fits s → ps.length - i = d → i ≤ ps.length → d < k → f (ps.map ofQ) k s3 s4 (ofQ s) (i : Int) = some (foldR op s (ps.drop i))
  | 0, i, k, s, hs, h1, h2, h3 => by
    obtain ⟨k, rfl⟩ : ∃ m, k = m + 1 := ⟨k - 1, by omega⟩
    rw [hf, if_neg (by rw [List.length_map]; omega), List.drop_eq_nil_of_le (by omega)]; rfl
  | d + 1, i, k, s, hs, h1, h2, h3 => by
    obtain ⟨k, rfl⟩ : ∃ m, k = m + 1 := ⟨k - 1, by omega⟩
    have hi : i < ps.length := by omega
    have hr : rd? (ps.map ofQ) (i : Int) = some (ofQ ps[i]) := by simp [rd?, hi]
    have hok := hp ps[i] (List.getElem_mem hi)
    rw [hf, if_pos (by rw [List.length_map]; omega), hr, Option.bind_some, htwo s ps[i] hs hok, Option.bind_some, List.drop_eq_getElem_cons hi, foldR]
    by_cases h : fits (op s ps[i])
    · rw [resR_fits h, if_pos rfl, if_pos h, show w64 ((i : Int) + 1) = ((i + 1 : Nat) : Int) by rw [w64_eq] <;> omega]
      exact fold_loop hf htwo ps hp hl s3 s4 d (i + 1) k _ h (by omega) (by omega) (by omega)
    · rw [resR_not h, if_neg (by decide), if_neg h]
theorem ref_add_b {l : List RT} (h : l.all okRB = true) (hl : l.length ≤ 1048576) (hb : l.all rightR = false) : ref02_Add l = some (bad 22) := by
  unfold ref02_Add; rw [all_eq h hl, hb]; rfl
theorem fits_one : fits 1 := ⟨by show (digs 1).length ≤ 32; rw [one_digs]; decide, by show (digs 1).length ≤ 32; rw [one_digs]; decide⟩
theorem ref_add_q {ps : List Rat} (h : ∀ p ∈ ps, fits p) (hl : ps.length ≤ 1048576) : ref02_Add (ps.map ofQ) = some (foldR (· + ·) 0 ps) := by
  unfold ref02_Add
  rw [all_eq (all_ok h) (by simpa using hl), all_right h, Option.bind_some, if_pos rfl, ref2Zero_eq, Option.bind_some]
  exact fold_loop (f := ref02_Add_l0) (fun a k s3 s4 s5 s6 => by rw [ref02_Add_l0]) (fun p q => two_q) ps h hl _ _ ps.length 0 FUEL 0 fits_zero rfl (Nat.zero_le _) (by unfold FUEL; omega)
theorem ref_mul_b {l : List RT} (h : l.all okRB = true) (hl : l.length ≤ 1048576) (hb : l.all rightR = false) : ref02_Mul l = some (bad 22) := by
  unfold ref02_Mul; rw [all_eq h hl, hb]; rfl
theorem ref_mul_q {ps : List Rat} (h : ∀ p ∈ ps, fits p) (hl : ps.length ≤ 1048576) : ref02_Mul (ps.map ofQ) = some (foldR (· * ·) 1 ps) := by
  unfold ref02_Mul
  rw [all_eq (all_ok h) (by simpa using hl), all_right h, Option.bind_some, if_pos rfl, ref_ofInt_q (z := 1) (by decide) (by decide), Option.bind_some]
  exact fold_loop (f := ref02_Mul_l0) (fun a k s3 s4 s5 s6 => by rw [ref02_Mul_l0]) (fun p q => ref_times_q) ps h hl _ _ ps.length 0 FUEL 1 fits_one rfl (Nat.zero_le _) (by unfold FUEL; omega)
theorem ref_negF_b {a : RT} (ha : okRB a = true) (h : rightR a = false) : ref02_Neg a = some (bad 22) := by
  unfold ref02_Neg; rw [ref2Right_eq ha, h]; rfl
theorem ref_negF_q {p : Rat} (hp : fits p) : ref02_Neg (ofQ p) = some (ofQ (-p), 0) := by
  unfold ref02_Neg; rw [ref2Right_eq (ofQ_okRB hp), ofQ_right hp, Option.bind_some, if_pos rfl, ref_neg_q hp]; rfl
theorem ref_abs_b {a : RT} (ha : okRB a = true) (h : rightR a = false) : ref02_Abs a = some (bad 22) := by
  unfold ref02_Abs; rw [ref2Right_eq ha, h]; rfl
theorem ref_abs_q {p : Rat} (hp : fits p) : ref02_Abs (ofQ p) = some ((false, digs p.num.natAbs, digs p.den), 0) := by
  unfold ref02_Abs; rw [ref2Right_eq (ofQ_okRB hp), ofQ_right hp, Option.bind_some, if_pos rfl, ref_copied_q hp]; rfl
theorem ref_floor_b {a : RT} (ha : okRB a = true) (h : rightR a = false) : ref02_Floor a = some (bad 22) := by
  unfold ref02_Floor; rw [ref2Right_eq ha, h]; rfl
theorem mkRat_one (z : Int) : mkRat z 1 = (z : Rat) := by
  refine Rat.ext ?_ ?_
  · rw [Rat.num_mkRat]; simp
  · rw [Rat.den_mkRat]; simp
theorem ref_floor_q {p : Rat} (hp : fits p) : ref02_Floor (ofQ p) = some (resR (p.floor : Rat)) := by
  unfold ref02_Floor
  have hl : (digs (p.num.natAbs / p.den)).length ≤ 32 := Nat.le_trans (digs_mono (Nat.div_le_self _ _)) hp.1
  rw [ref2Right_eq (ofQ_okRB hp), ofQ_right hp, Option.bind_some, if_pos rfl]
  refine bind_eq (r1DivMod_eq (Nat.le_trans hp.1 (by decide)) (Nat.le_trans hp.2 (by decide)) p.den_nz) ?_
  have hc : ((ofQ p).1 && decide ((0 : Int) < ((List.length (digs (p.num.natAbs % p.den)) : Nat) : Int))) = (decide (p.num < 0) && decide (p.num.natAbs % p.den ≠ 0)) := by rw [decide_eq_decide.2 digs_pos_iff]; rfl
  simp only [hc]
  rw [floor_num]
  have low : ∀ n, (digs n).length ≤ 100 → ref2Make (ofQ p).1 (digs n) [1] = some (resR ((sg (decide (p.num < 0)) n : Int) : Rat)) := fun n hn => by
    rw [← one_digs, ref2Make_eq (by omega) (by rw [one_digs]; decide) (by decide), mkRat_one]; rfl
  by_cases h : (decide (p.num < 0) && decide (p.num.natAbs % p.den ≠ 0)) = true
  · rw [if_pos h, if_pos h]
    have h1 := r1Add_eq (m := p.num.natAbs / p.den) (n := 1) (by omega) (by rw [one_digs]; decide)
    rw [one_digs] at h1
    exact bind_eq ref2One_eq (bind_eq h1 (bind_eq ref2One_eq (bind_eq (low _ (Nat.le_trans (add_len (k := 32) hl (by rw [one_digs]; decide)) (by decide))) rfl)))
  · rw [if_neg h, if_neg h]
    exact bind_eq ref2One_eq (bind_eq (low _ (by omega)) rfl)
theorem ref_ceil_b {a : RT} (ha : okRB a = true) (h : rightR a = false) : ref02_Ceil a = some (bad 22) := by
  unfold ref02_Ceil; rw [ref2Right_eq ha, h]; rfl
theorem ref_ceil_q {p : Rat} (hp : fits p) : ref02_Ceil (ofQ p) = some (resR (p.ceil : Rat)) := by
  unfold ref02_Ceil
  rw [ref2Right_eq (ofQ_okRB hp), ofQ_right hp, Option.bind_some, if_pos rfl]
  refine bind_eq (ref_neg_q hp) (bind_eq (ref_floor_q (fits_neg hp)) ?_)
  have e : ((p.ceil : Int) : Rat) = -(((-p).floor : Int) : Rat) := by rw [Rat.ceil_eq_neg_floor_neg]; simp
  rw [e]
  by_cases h : fits (((-p).floor : Int) : Rat)
  · rw [resR_fits h, if_pos rfl, resR_fits (fits_neg h)]
    exact bind_eq (ref_neg_q h) rfl
  · rw [resR_not h, if_neg (by decide), resR_not (fun h2 => h (by have := fits_neg h2; rwa [Rat.neg_neg] at this))]
end Go.FL
/-
  GP: glyphref02: comparisons, copies, texts.
-/
namespace Go.FL
open Go Go.Proofs

def ref02_Copy (a0 : RT) : Option (RT) := ((ap? 35184372088832 [] a0.2.1).bind fun x1 => ((ap? 35184372088832 [] a0.2.2).bind fun x2 => (some ((a0.1, x1, x2)))))
theorem ref02_Copy_ok {a0 : RT} {r : RT} (h : ref02_Copy a0 = some r) :
    Fn Try.prog 40 [.ag [.b a0.1, .sl (L a0.2.1), .sl (L a0.2.2)]] (.d (.ag [.b r.1, .sl (L r.2.1), .sl (L r.2.2)])) := by
  unfold ref02_Copy at h
  refine Fn.ofC (rs := [.cell 2 25]) (nt := 20) Try.func40 rfl rfl rfl (by simp) rfl ?_
  refine .seq ?_
  refine .region ?_
  refine vk (vbx) ?_
  refine vk (van (zero_of gI_R) gZ_R) ?_
  refine rn ?_
  refine .gh (Gh.keep [1, 2] rfl) ?_
  refine .seq ?_
  refine .region ?_
  refine vk (vfa gF_R_0) ?_
  refine vk (vldp ga_bool) ?_
  refine vk (vbdA gP_R gI_R (fun w I μ => gZA_R w I μ)) ?_
  refine vk (van (zero_of gI_R) gZ_R) ?_
  refine stnA ?_ gS_R (by decide)
  refine rn ?_
  refine .gh (Gh.keep [1, 2, 3] rfl) ?_
  refine .seq ?_
  refine .region ?_
  refine vk (vfab gF_R_1) ?_
  refine ldb (cs := [.d (.b a0.1), .nl, .nl]) (c := .nl) rfl rfl ?_ ga_L
  refine vk (vfa gF_R_1) ?_
  refine vk (vldp ga_L) ?_
  obtain ⟨x1, hx1, h⟩ := bnd h
  refine apn' hx1 gB_L ?_ L_sz1 L_length ge_L
  refine vk (vfab gF_R_1) ?_
  refine stbo (cs := [.d (.b a0.1), .nl, .nl]) (c := .nl) rfl rfl ?_ gz_L
  refine rn ?_
  refine .gh (Gh.keep [1, 2, 3] rfl) ?_
  refine .seq ?_
  refine .region ?_
  refine vk (vfab gF_R_2) ?_
  refine ldb (cs := [.d (.b a0.1), .own 65 (L x1), .nl]) (c := .nl) rfl rfl ?_ ga_L
  refine vk (vfa gF_R_2) ?_
  refine vk (vldp ga_L) ?_
  obtain ⟨x2, hx2, h⟩ := bnd h
  refine apn' hx2 gB_L ?_ L_sz1 L_length ge_L
  refine vk (vfab gF_R_2) ?_
  refine stbo (cs := [.d (.b a0.1), .own 65 (L x1), .nl]) (c := .nl) rfl rfl ?_ gz_L
  refine rn ?_
  refine .gh (Gh.keep [2, 3] rfl) ?_
  refine .seq ?_
  refine .region ?_
  refine fz (p := .c 0 1) ?_
  refine fz (p := .c 0 2) ?_
  refine vk (vldba (cs := [.d (.b a0.1), .d (.sl (L x1)), .d (.sl (L x2))]) (ds := [.b a0.1, .sl (L x1), .sl (L x2)]) rfl gA_R gS_R) ?_
  refine stn ?_ gS_R (by decide)
  refine rn ?_
  refine .gh (Gh.keep [2] rfl) ?_
  refine .ret ?_
  cases h
  exact ⟨_, ⟨.inr rfl, gA_R, gS_R, (by decide : (0 : Nat) < 3)⟩, rfl⟩

end Go.FL
