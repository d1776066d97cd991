/-
  Part 5 of the base of the proofs: a logic of our own over the calculus, the contracts of the functions
-/
import Derived.Test.YtcoofpnbnifbbaaArD
set_option linter.unusedVariables false
/-
  GP: array: what is made.
-/
namespace Go.FL
open Go Go.Proofs

def array_Right (a0 : Arr) : Option (Bool) := ((arMeasured a0).bind fun x1 => (some (x1.2)))
theorem array_Right_ok {a0 : Arr} {r : Bool} (h : array_Right a0 = some r) :
    Fn Try.prog 12 [.ag [.sl (Is a0.shape), .sl (Its a0.items)]] (.d (.b r)) := by
  unfold array_Right at h
  refine Fn.of (rs := [.tmp 2]) (nt := 11) Try.func12 rfl rfl rfl (by simp) rfl ?_
  refine .seq ?_
  refine .region ?_
  refine vk (vbx) ?_
  refine asd ?_
  refine rn ?_
  refine .gh (Gh.keep [1, 2] rfl) ?_
  refine .seq ?_
  refine .region ?_
  refine vk (vlda gA_Arr gS_Arr) ?_
  obtain ⟨x1, hx1, h⟩ := bnd h
  refine vk (VOK.tupd (vs := [.ag [.i .i64 x1.1.1, .i .i64 x1.1.2], .b x1.2]) (vcl0 (arMeasured_ok hx1) Try.call51)) ?_
  refine vk (vmvd) ?_
  refine vk (vex) ?_
  refine vk (vex) ?_
  refine vk (van (zero_of gI_Ex) gZ_Ex) ?_
  refine stn ?_ gS_Ex (by decide)
  refine asd ?_
  refine rn ?_
  refine .gh (Gh.keep [2, 4] rfl) ?_
  refine .seq ?_
  refine .region ?_
  refine vk (vmvd) ?_
  refine asd ?_
  refine rn ?_
  refine .gh (Gh.keep [2] rfl) ?_
  refine .ret ?_
  cases h
  exact ⟨rfl, rfl⟩

def array_IsSimple (a0 : Arr) : Option (Bool) := ((array_Right a0).bind fun x1 => (Option.bind ((if x1 = true then ((array_isSimple a0).bind fun x3 => (some x3)) else (some false)) : Option (Bool)) fun (z1 : Bool) => (some (z1))))
theorem array_IsSimple_ok {a0 : Arr} {r : Bool} (h : array_IsSimple a0 = some r) :
    Fn Try.prog 13 [.ag [.sl (Is a0.shape), .sl (Its a0.items)]] (.d (.b r)) := by
  unfold array_IsSimple at h
  refine Fn.of (rs := [.tmp 2]) (nt := 9) Try.func13 rfl rfl rfl (by simp) rfl ?_
  refine .seq ?_
  refine .region ?_
  refine vk (vbx) ?_
  refine asd ?_
  refine rn ?_
  refine .gh (Gh.keep [1, 2] rfl) ?_
  refine .seq ?_
  obtain ⟨x1, hx1, h⟩ := bnd h
  obtain ⟨z1, hz, h⟩ := bnd h
  refine AW.mr (σ := Unit) (fun _ => True) (fun _ => [(2, .d (.b z1))]) (fun _ => []) ?_ ?_
  · skip
    refine .region ?_
    refine vk (vlda gA_Arr gS_Arr) ?_
    refine vk (vcl0 (array_Right_ok hx1) Try.call12) ?_
    by_cases hc : x1 = true
    · replace hz := ite_t hc hz
      have hb0 : x1 = true := hc
      refine vk (VOK.lit (vmvd) hb0) ?_
      refine vk (vlda gA_Arr gS_Arr) ?_
      obtain ⟨x3, hx3, hz⟩ := bnd hz
      refine vk (vcl0 (array_isSimple_ok hx3) Try.call52) ?_
      refine vk (vpkd) ?_
      refine asd ?_
      refine RL.gh (Gh.keep [2] rfl) ?_
      refine .nil ?_
      cases hz
      exact jr () trivial
    replace hz := ite_f hc hz
    have hb0 : x1 = false := (bf hc)
    refine vk (VOK.lit (vmvd) hb0) ?_
    refine gf ?_
    refine gf ?_
    refine vk (vpkd) ?_
    refine asd ?_
    refine RL.gh (Gh.keep [2] rfl) ?_
    refine .nil ?_
    cases hz
    exact jr () trivial
  rintro _ _
  refine .ret ?_
  cases h
  exact ⟨rfl, rfl⟩

def array_Depth (a0 : Arr) : Option (Int) := ((arMeasured a0).bind fun x1 => (some (x1.1.2)))
theorem array_Depth_ok {a0 : Arr} {r : Int} (h : array_Depth a0 = some r) :
    Fn Try.prog 14 [.ag [.sl (Is a0.shape), .sl (Its a0.items)]] (.d (.i .i64 r)) := by
  unfold array_Depth at h
  refine Fn.of (rs := [.tmp 2]) (nt := 12) Try.func14 rfl rfl rfl (by simp) rfl ?_
  refine .seq ?_
  refine .region ?_
  refine vk (vbx) ?_
  refine asd ?_
  refine rn ?_
  refine .gh (Gh.keep [1, 2] rfl) ?_
  refine .seq ?_
  refine .region ?_
  refine vk (vlda gA_Arr gS_Arr) ?_
  obtain ⟨x1, hx1, h⟩ := bnd h
  refine vk (VOK.tupd (vs := [.ag [.i .i64 x1.1.1, .i .i64 x1.1.2], .b x1.2]) (vcl0 (arMeasured_ok hx1) Try.call51)) ?_
  refine vk (vmvd) ?_
  refine vk (vex) ?_
  refine vk (vex) ?_
  refine vk (van (zero_of gI_Ex) gZ_Ex) ?_
  refine stn ?_ gS_Ex (by decide)
  refine asd ?_
  refine rn ?_
  refine .gh (Gh.keep [2, 3] rfl) ?_
  refine .seq ?_
  refine .gh (Gh.nbp (t := 3) rfl) ?_
  refine .region ?_
  refine vk (vfa gF_Ex_1) ?_
  refine vk (vldp ga_int) ?_
  refine asd ?_
  refine rn ?_
  refine .gh (Gh.keep [2] rfl) ?_
  refine .ret ?_
  cases h
  exact ⟨rfl, rfl⟩

def array_Cells (a0 : Arr) : Option (Int) := ((arMeasured a0).bind fun x1 => (some (x1.1.1)))
theorem array_Cells_ok {a0 : Arr} {r : Int} (h : array_Cells a0 = some r) :
    Fn Try.prog 15 [.ag [.sl (Is a0.shape), .sl (Its a0.items)]] (.d (.i .i64 r)) := by
  unfold array_Cells at h
  refine Fn.of (rs := [.tmp 2]) (nt := 12) Try.func15 rfl rfl rfl (by simp) rfl ?_
  refine .seq ?_
  refine .region ?_
  refine vk (vbx) ?_
  refine asd ?_
  refine rn ?_
  refine .gh (Gh.keep [1, 2] rfl) ?_
  refine .seq ?_
  refine .region ?_
  refine vk (vlda gA_Arr gS_Arr) ?_
  obtain ⟨x1, hx1, h⟩ := bnd h
  refine vk (VOK.tupd (vs := [.ag [.i .i64 x1.1.1, .i .i64 x1.1.2], .b x1.2]) (vcl0 (arMeasured_ok hx1) Try.call51)) ?_
  refine vk (vmvd) ?_
  refine vk (vex) ?_
  refine vk (vex) ?_
  refine vk (van (zero_of gI_Ex) gZ_Ex) ?_
  refine stn ?_ gS_Ex (by decide)
  refine asd ?_
  refine rn ?_
  refine .gh (Gh.keep [2, 3] rfl) ?_
  refine .seq ?_
  refine .gh (Gh.nbp (t := 3) rfl) ?_
  refine .region ?_
  refine vk (vfa gF_Ex_0) ?_
  refine vk (vldp ga_int) ?_
  refine asd ?_
  refine rn ?_
  refine .gh (Gh.keep [2] rfl) ?_
  refine .ret ?_
  cases h
  exact ⟨rfl, rfl⟩

def array_Match (a0 : Arr) (a1 : Arr) : Option (Bool) := ((array_Right a0).bind fun x1 => (Option.bind ((if x1 = true then ((array_Right a1).bind fun x3 => (if x3 = true then ((ar_equal a0 a1).bind fun x4 => (some x4)) else (some false))) else (some false)) : Option (Bool)) fun (z1 : Bool) => (some (z1))))
theorem array_Match_ok {a0 : Arr} {a1 : Arr} {r : Bool} (h : array_Match a0 a1 = some r) :
    Fn Try.prog 47 [.ag [.sl (Is a0.shape), .sl (Its a0.items)], .ag [.sl (Is a1.shape), .sl (Its a1.items)]] (.d (.b r)) := by
  unfold array_Match at h
  refine Fn.of (rs := [.tmp 4]) (nt := 16) Try.func47 rfl rfl rfl (by simp) rfl ?_
  refine .seq ?_
  refine .region ?_
  refine vk (vbx) ?_
  refine vk (vbx) ?_
  refine asd ?_
  refine rn ?_
  refine .gh (Gh.keep [2, 3, 4] rfl) ?_
  refine .seq ?_
  obtain ⟨x1, hx1, h⟩ := bnd h
  obtain ⟨z1, hz, h⟩ := bnd h
  refine AW.mr (σ := Unit) (fun _ => True) (fun _ => [(4, .d (.b z1))]) (fun _ => []) ?_ ?_
  · skip
    refine .region ?_
    refine vk (vlda gA_Arr gS_Arr) ?_
    refine vk (vcl0 (array_Right_ok hx1) Try.call12) ?_
    by_cases hc : x1 = true
    · replace hz := ite_t hc hz
      have hb0 : x1 = true := hc
      refine vk (VOK.lit (vmvd) hb0) ?_
      refine vk (vlda gA_Arr gS_Arr) ?_
      obtain ⟨x3, hx3, hz⟩ := bnd hz
      refine vk (vcl0 (array_Right_ok hx3) Try.call12) ?_
      refine vk (vpkd) ?_
      by_cases hc : x3 = true
      · replace hz := ite_t hc hz
        have hb1 : x3 = true := hc
        refine vk (VOK.lit (vmvd) hb1) ?_
        refine vk (vlda gA_Arr gS_Arr) ?_
        refine vk (vlda gA_Arr gS_Arr) ?_
        obtain ⟨x4, hx4, hz⟩ := bnd hz
        refine vk (vcl0 (ar_equal_ok hx4) Try.call87) ?_
        refine vk (vpkd) ?_
        refine asd ?_
        refine RL.gh (Gh.keep [4] rfl) ?_
        refine .nil ?_
        cases hz
        exact jr () trivial
      replace hz := ite_f hc hz
      have hb1 : x3 = false := (bf hc)
      refine vk (VOK.lit (vmvd) hb1) ?_
      refine gf ?_
      refine gf ?_
      refine gf ?_
      refine vk (vpkd) ?_
      refine asd ?_
      refine RL.gh (Gh.keep [4] rfl) ?_
      refine .nil ?_
      cases hz
      exact jr () trivial
    replace hz := ite_f hc hz
    have hb0 : x1 = false := (bf hc)
    refine vk (VOK.lit (vmvd) hb0) ?_
    refine gf ?_
    refine gf ?_
    refine vk (vpkd) ?_
    refine vk (vmvd) ?_
    refine gf ?_
    refine gf ?_
    refine gf ?_
    refine vk (vpkd) ?_
    refine asd ?_
    refine RL.gh (Gh.keep [4] rfl) ?_
    refine .nil ?_
    cases hz
    exact jr () trivial
  rintro _ _
  refine .ret ?_
  cases h
  exact ⟨rfl, rfl⟩

def slices_IndexFunc_api_Item_api_Item_l1 (a0 : (List Itm)) (a1 : FT_Itm__bool) (K0 : Int → Option (Int)) : Nat → Int → Int → Option (Int)
  | 0, _, _ => none
  | k + 1, s2, s3 => (if s3 < ((List.length a0 : Nat) : Int) then ((rd? a0 s3).bind fun x4 => ((a1.g x4).bind fun x5 => (if x5 = true then (some (s3)) else (slices_IndexFunc_api_Item_api_Item_l1 a0 a1 K0 k s2 (w64 (s3 + 1)))))) else (K0 s2))
def slices_IndexFunc_api_Item_api_Item (a0 : (List Itm)) (a1 : FT_Itm__bool) : Option (Int) := (jn (fun (z1 : Int) => (some ((-1)))) fun K0 => (slices_IndexFunc_api_Item_api_Item_l1 a0 a1 K0 FUEL 0 0))
theorem slices_IndexFunc_api_Item_api_Item_ok {a0 : (List Itm)} {a1 : FT_Itm__bool} (oa1 : FO_Itm__bool a1) {r : Int} (h : slices_IndexFunc_api_Item_api_Item a0 a1 = some r) :
    Fn Try.prog 94 [.sl (Its a0), a1.dv] (.d (.i .i64 r)) := by
  unfold slices_IndexFunc_api_Item_api_Item at h
  refine Fn.of (rs := [.tmp 4]) (nt := 19) Try.func94 rfl rfl rfl (by simp) rfl ?_
  refine .seq ?_
  refine .region ?_
  refine asd ?_
  refine rn ?_
  refine .gh (Gh.keep [0, 1, 4] rfl) ?_
  refine .seq ?_
  refine .seq ?_
  refine .region ?_
  refine vk (vmvd) ?_
  refine vk (vlnE (Its_length _) (Its_sz _) gu_Its) ?_
  refine vk (vmvd) ?_
  refine rn ?_
  refine .gh (Gh.keep [0, 1, 4, 7, 8] rfl) ?_
  obtain ⟨K0, hK0, h⟩ := jn_out h
  refine AW.mr (σ := Int) (fun p => K0 p = some r) (fun p => [(4, .d (.i .i64 p))]) (fun p => []) ?_ ?_
  · skip
    refine .block ?_
    refine .loop (.gh (Gh.keep [0, 1, 4, 7, 8] rfl) ?_)
    refine AL.ind (σ := Nat × Int × Int) (m := fun p => p.1) (e := fun p => [(0, .d (.sl (Its a0))), (1, .d (a1.dv)), (4, .d (.i .i64 p.2.1)), (7, .d (.i .i64 ((List.length a0 : Nat) : Int))), (8, .d (.i .i64 p.2.2))]) (h := fun p => []) (I := fun p => slices_IndexFunc_api_Item_api_Item_l1 a0 a1 K0 p.1 p.2.1 p.2.2 = some r) ?_ (FUEL, 0, 0) h
    rintro ⟨k, s2, s3⟩ h ih
    dsimp only at h ih ⊢
    rcases k with _ | k
    · rw [slices_IndexFunc_api_Item_api_Item_l1] at h; cases h
    rw [slices_IndexFunc_api_Item_api_Item_l1] at h
    refine .seq ?_
    refine .region ?_
    refine vk (vbi) ?_
    refine rn ?_
    refine .gh (Gh.keep [0, 1, 4, 7, 8, 9] rfl) ?_
    refine .seq ?_
    by_cases hc : s3 < ((List.length a0 : Nat) : Int)
    · replace h := ite_t hc h
      refine cnt (decide_eq_true hc) ?_
      refine .skip ?_
      show AW _ _ _ _ _ _
      refine .seq ?_
      refine .block ?_
      refine .seq ?_
      refine .region ?_
      refine vk (vmvd) ?_
      refine asd ?_
      refine rn ?_
      refine .gh (Gh.keep [0, 1, 4, 5, 7, 8] rfl) ?_
      refine .seq ?_
      refine .region ?_
      refine vk (vmvd) ?_
      refine vk (vmvd) ?_
      refine vk (vmvd) ?_
      obtain ⟨x4, hx4, h⟩ := bnd h
      obtain ⟨nx4, hnx4, hxx4⟩ := rd_some hx4
      refine vk (vix nx4 hnx4 (Its_at hxx4) rfl gs_Its) ?_
      refine vk (vlda gA_Itm gS_Itm) ?_
      obtain ⟨x5, hx5, h⟩ := bnd h
      refine vk (vclv (oa1 _ _ hx5)) ?_
      refine rn ?_
      refine .gh (Gh.keep [0, 1, 4, 5, 7, 8, 16] rfl) ?_
      by_cases hc : x5 = true
      · replace h := ite_t hc h
        refine cnt hc ?_
        refine .seq ?_
        refine .region ?_
        refine vk (vmvd) ?_
        refine asd ?_
        refine rn ?_
        refine .gh (Gh.keep [0, 1, 4, 7, 8] rfl) ?_
        refine .ret ?_
        cases h
        exact ⟨rfl, rfl⟩
      replace h := ite_f hc h
      refine cnf (bf hc) ?_
      refine .skip ?_
      show AW _ _ _ _ _ _
      refine .region ?_
      refine vk (vbi) ?_
      refine vk (vmvd) ?_
      refine .nil ?_
      refine AL.gh (Gh.keep [0, 1, 4, 7, 8] rfl) ?_
      exact ih (k, s2, (w64 (s3 + 1))) h (Nat.lt_succ_self _)
    replace h := ite_f hc h
    refine cnf (decide_eq_false hc) ?_
    refine .gh (Gh.keep [4] rfl) ?_
    refine .exit ?_
    exact jr (s2) h
  rintro z1 h
  try dsimp only at h ⊢
  subst hK0
  show AW _ _ _ _ _ _
  refine .seq ?_
  refine .region ?_
  refine asd ?_
  refine rn ?_
  refine .gh (Gh.keep [4] rfl) ?_
  refine .ret ?_
  cases h
  exact ⟨rfl, rfl⟩

def slices_ContainsFunc_api_Item_api_Item (a0 : (List Itm)) (a1 : FT_Itm__bool) : Option (Bool) := ((slices_IndexFunc_api_Item_api_Item a0 a1).bind fun x1 => (some ((decide (0 ≤ x1)))))
theorem slices_ContainsFunc_api_Item_api_Item_ok {a0 : (List Itm)} {a1 : FT_Itm__bool} (oa1 : FO_Itm__bool a1) {r : Bool} (h : slices_ContainsFunc_api_Item_api_Item a0 a1 = some r) :
    Fn Try.prog 55 [.sl (Its a0), a1.dv] (.d (.b r)) := by
  unfold slices_ContainsFunc_api_Item_api_Item at h
  refine Fn.of (rs := [.tmp 4]) (nt := 9) Try.func55 rfl rfl rfl (by simp) rfl ?_
  refine .seq ?_
  refine .region ?_
  refine asd ?_
  refine rn ?_
  refine .gh (Gh.keep [0, 1, 4] rfl) ?_
  refine .seq ?_
  refine .region ?_
  refine vk (vmvd) ?_
  refine vk (vmvd) ?_
  obtain ⟨x1, hx1, h⟩ := bnd h
  refine vk (vcl0 (slices_IndexFunc_api_Item_api_Item_ok oa1 hx1) Try.call94) ?_
  refine vk (vbi) ?_
  refine asd ?_
  refine rn ?_
  refine .gh (Gh.keep [4] rfl) ?_
  refine .ret ?_
  cases h
  exact ⟨rfl, rfl⟩

def array_Make_1 (a0 : Itm) : Option (Bool) := ((arRightItem a0).bind fun x1 => (some ((!x1))))
theorem array_Make_1_ok {a0 : Itm} {r : Bool} (h : array_Make_1 a0 = some r) :
    Fn Try.prog 56 [.ag [.i .u8 a0.kind, .b a0.num.1, .sl (L a0.num.2.1), .sl (L a0.num.2.2), .i .i32 a0.char, .sl (Ars a0.box)]] (.d (.b r)) := by
  unfold array_Make_1 at h
  refine Fn.of (rs := [.tmp 2]) (nt := 6) Try.func56 rfl rfl rfl (by simp) rfl ?_
  refine .seq ?_
  refine .region ?_
  refine vk (vbx) ?_
  refine asd ?_
  refine rn ?_
  refine .gh (Gh.keep [1, 2] rfl) ?_
  refine .seq ?_
  refine .region ?_
  refine vk (vlda gA_Itm gS_Itm) ?_
  obtain ⟨x1, hx1, h⟩ := bnd h
  refine vk (vcl0 (arRightItem_ok hx1) Try.call57) ?_
  refine vk (vnt) ?_
  refine asd ?_
  refine rn ?_
  refine .gh (Gh.keep [2] rfl) ?_
  refine .ret ?_
  cases h
  exact ⟨rfl, rfl⟩

def array_Make_l5 (x12 : Itm) (K4 : Int → Option (Arr × Int)) : Nat → Int → Int → Option (Arr × Int)
  | 0, _, _ => none
  | k + 1, s14, s15 => (if s15 < ((List.length x12.box : Nat) : Int) then ((rd? x12.box s15).bind fun x16 => ((array_Cells x16).bind fun x17 => (array_Make_l5 x12 K4 k (w64 (s14 + x17)) (w64 (s15 + 1))))) else (K4 s14))
def array_Make_l2 (a1 : (List Itm)) (K1 : (List Int) → Option (Arr × Int)) : Nat → (List Int) → Int → Option (Arr × Int)
  | 0, _, _ => none
  | k + 1, s9, s10 => (if s10 < ((List.length a1 : Nat) : Int) then (jn (fun (z11 : (List Int)) => (array_Make_l2 a1 K1 k z11 (w64 (s10 + 1)))) fun K3 => ((rd? a1 s10).bind fun x12 => (jn (fun (z13 : Int) => ((ap? 17592186044416 s9 [z13]).bind fun x18 => (K3 x18))) fun K4 => (array_Make_l5 x12 K4 FUEL 1 0)))) else (K1 s9))
def array_Make_l7 (a1 : (List Itm)) (x1 : Int × Int) (z8 : (List Int)) (K6 : Arr → Int → (List Int) → (List Itm) → Option (Arr × Int)) : Nat → Arr → Int → Int → Int → (List Int) → (List Itm) → Option (Arr × Int)
  | 0, _, _, _, _, _, _ => none
  | k + 1, s23, s24, s25, s26, s27, s28 => (if s25 < x1.1 then ((grd? (((List.length a1 : Nat) : Int) ≠ 0)).bind fun x29 => ((rd? z8 (Int.tmod s25 ((List.length a1 : Nat) : Int))).bind fun x30 => (if 16384 < (w64 (s26 + x30)) then (some ((Arr.mk [] []), 8)) else ((grd? (((List.length a1 : Nat) : Int) ≠ 0)).bind fun x31 => ((rd? a1 (Int.tmod s25 ((List.length a1 : Nat) : Int))).bind fun x32 => ((ar_same x32).bind fun x33 => ((ap? 1466015503701 s28 [x33]).bind fun x34 => (array_Make_l7 a1 x1 z8 K6 k s23 s24 (w64 (s25 + 1)) (w64 (s26 + x30)) s27 x34)))))))) else (K6 s23 s24 s27 s28))
def array_Make (a0 : (List Int)) (a1 : (List Itm)) : Option (Arr × Int) := ((array_Size a0).bind fun x1 => (if x1.2 = 0 then (Option.bind ((if ((List.length a1 : Nat) : Int) = 0 then (some true) else ((slices_ContainsFunc_api_Item_api_Item a1 (⟨.fn 56 [] [], fun x => array_Make_1 x⟩ : FT_Itm__bool)).bind fun x3 => (some x3))) : Option (Bool)) fun (z2 : Bool) => (if z2 = true then (some ((Arr.mk [] []), 22)) else ((sClone_int a0).bind fun x4 => (jn (fun (z5 : (List Itm)) => (jn (fun (z8 : (List Int)) => (jn (fun (z19 : Arr) (z20 : Int) (z21 : (List Int)) (z22 : (List Itm)) => ((array_Right (Arr.mk z21 z22)).bind fun x35 => (if x35 = true then (some ((Arr.mk z21 z22), 0)) else (some ((Arr.mk [] []), 8))))) fun K6 => (array_Make_l7 a1 x1 z8 K6 FUEL (Arr.mk [] []) 0 0 0 x4 z5))) fun K1 => (array_Make_l2 a1 K1 FUEL [] 0))) fun K0 => (if x1.1 = 0 then ((rd? a1 0).bind fun x6 => ((ar_typed x6).bind fun x7 => (K0 ([x7])))) else (K0 [])))))) else (some ((Arr.mk [] []), x1.2))))
set_option maxHeartbeats 4000000 in
theorem array_Make_ok {a0 : (List Int)} {a1 : (List Itm)} {r : Arr × Int} (h : array_Make a0 a1 = some r) :
    Fn Try.prog 17 [.sl (Is a0), .sl (Its a1)] (.tup [.d (.ag [.sl (Is r.1.shape), .sl (Its r.1.items)]), .d (.i .i64 r.2)]) := by
  unfold array_Make at h
  refine Fn.ofC (rs := [.cell 4 25, .tmp 5]) (nt := 105) Try.func17 rfl rfl rfl (by simp) rfl ?_
  refine .seq ?_
  refine .region ?_
  refine vk (van (zero_of gI_Arr) gZ_Arr) ?_
  refine asd ?_
  refine rn ?_
  refine .gh (Gh.keep [0, 1, 4, 5] rfl) ?_
  refine .seq ?_
  refine .region ?_
  refine vk (vmvd) ?_
  obtain ⟨x1, hx1, h⟩ := bnd h
  refine vk (VOK.tupd (vs := [.i .i64 x1.1, .i .i64 x1.2]) (vcl0 (array_Size_ok hx1) Try.call54)) ?_
  refine vk (vmvd) ?_
  refine vk (vex) ?_
  refine vk (vex) ?_
  refine asd ?_
  refine asd ?_
  refine rn ?_
  refine .gh (Gh.keep [0, 1, 4, 5, 6, 7] rfl) ?_
  refine .seq ?_
  refine .block ?_
  refine .seq ?_
  refine .region ?_
  refine vk (vmvd) ?_
  refine vk (vbi) ?_
  refine asd ?_
  refine rn ?_
  refine .gh (Gh.keep [0, 1, 4, 5, 6, 7, 22] rfl) ?_
  by_cases hc : x1.2 = 0
  · replace h := ite_t hc h
    refine cnf (ntf (decide_eq_true hc)) ?_
    refine .seq ?_
    obtain ⟨z2, hz, h⟩ := bnd h
    refine AW.mr (σ := Unit) (fun _ => True) (fun _ => [(0, .d (.sl (Is a0))), (1, .d (.sl (Its a1))), (4, .nb [.sl (Is []), .sl (Its [])]), (5, .d (.i .i64 0)), (6, .d (.i .i64 x1.1)), (27, .d (.b z2))]) (fun _ => []) ?_ ?_
    · skip
      refine .region ?_
      refine vk (vmvd) ?_
      refine vk (vlnE (Its_length _) (Its_sz _) gu_Its) ?_
      refine vk (vbi) ?_
      by_cases hc : ((List.length a1 : Nat) : Int) = 0
      · replace hz := ite_t hc hz
        have hb0 : (decide (((List.length a1 : Nat) : Int) = 0)) = true := (decide_eq_true hc)
        refine vk (VOK.lit (vmvd) hb0) ?_
        refine gf ?_
        refine gf ?_
        refine vk (vpkd) ?_
        refine asd ?_
        refine RL.gh (Gh.keep [0, 1, 4, 5, 6, 27] rfl) ?_
        refine .nil ?_
        cases hz
        exact jr () trivial
      replace hz := ite_f hc hz
      have hb0 : (decide (((List.length a1 : Nat) : Int) = 0)) = false := (decide_eq_false hc)
      refine vk (VOK.lit (vmvd) hb0) ?_
      refine vk (vmvd) ?_
      obtain ⟨x3, hx3, hz⟩ := bnd hz
      refine vk (vcl0 (slices_ContainsFunc_api_Item_api_Item_ok (FWOK Try.call56 (fun _ _ h => array_Make_1_ok h)) hx3) Try.call55) ?_
      refine vk (vpkd) ?_
      refine asd ?_
      refine RL.gh (Gh.keep [0, 1, 4, 5, 6, 27] rfl) ?_
      refine .nil ?_
      cases hz
      exact jr () trivial
    rintro _ _
    by_cases hc : z2 = true
    · replace h := ite_t hc h
      refine cnt hc ?_
      refine .seq ?_
      refine .region ?_
      refine vk (vbd gP_Arr gI_Arr gZ_Arr) ?_
      refine stn ?_ gS_Arr (by decide)
      refine asd ?_
      refine rn ?_
      refine .gh (Gh.keep [0, 1, 4, 5, 6] rfl) ?_
      refine .ret ?_
      cases h
      exact ⟨_, _, ⟨.inr rfl, gA_Arr, gS_Arr, (by decide : (0 : Nat) < 2)⟩, rfl, rfl⟩
    replace h := ite_f hc h
    refine cnf (bf hc) ?_
    refine .skip ?_
    show AW _ _ _ _ _ _
    refine .seq ?_
    refine .region ?_
    refine vk (vmvd) ?_
    obtain ⟨x4, hx4, h⟩ := bnd h
    refine vk ((vcl0 (sClone_int_ok hx4) Try.call58).deep) ?_
    refine vk (vbdA gP_Arr gI_Arr (fun w I μ => gZA_Arr w I μ)) ?_
    refine vk (van (zero_of gI_Arr) gZ_Arr) ?_
    refine stnA ?_ gS_Arr (by decide)
    refine rn ?_
    refine .gh (Gh.keep [1, 4, 5, 6, 8] rfl) ?_
    refine .seq ?_
    refine .seq ?_
    refine .region ?_
    refine vk (vmvd) ?_
    refine vk (vbi) ?_
    refine rn ?_
    refine .gh (Gh.keep [1, 4, 5, 6, 8, 40] rfl) ?_
    obtain ⟨K0, hK0, h⟩ := jn_out h
    refine AW.mr (σ := (List Itm)) (fun p => K0 p = some r) (fun p => [(1, .d (.sl (Its a1))), (4, .nb [.sl (Is []), .sl (Its [])]), (5, .d (.i .i64 0)), (6, .d (.i .i64 x1.1)), (8, .bp 0 0)]) (fun p => [HO.box [.d (.sl (Is x4)), .own 38 (Its p)]]) ?_ ?_
    · skip
      by_cases hc : x1.1 = 0
      · replace h := ite_t hc h
        refine cnt (decide_eq_true hc) ?_
        refine .region ?_
        refine vk (vmvd) ?_
        obtain ⟨x6, hx6, h⟩ := bnd h
        obtain ⟨nx6, hnx6, hxx6⟩ := rd_some hx6
        refine vk (vix nx6 hnx6 (Its_at hxx6) rfl gs_Its) ?_
        refine vk (vlda gA_Itm gS_Itm) ?_
        obtain ⟨x7, hx7, h⟩ := bnd h
        refine vk (vcl0 (ar_typed_ok hx7) Try.call59) ?_
        refine vk (vbslE (Its_bs1 x7) (Its_flat [x7]) ge_Its) ?_
        refine vk (vfab gF_Arr_1) ?_
        refine stbo (cs := [.d (.sl (Is x4)), .nl]) (c := .nl) rfl rfl ?_ gz_Its
        refine RL.gh (Gh.keep [1, 4, 5, 6, 8] rfl) ?_
        refine .nil ?_
        exact jr ([x7]) h
      replace h := ite_f hc h
      refine cnf (decide_eq_false hc) ?_
      refine .gh (Gh.nlOwnC (id := 0) (off := 1) 38 (by rw [gz_Itm]; decide)) ?_
      refine .gh (Gh.keep [1, 4, 5, 6, 8] rfl) ?_
      refine .skip ?_
      exact jr ([]) h
    rintro z5 h
    try dsimp only at h ⊢
    subst hK0
    show AW _ _ _ _ _ _
    refine .seq ?_
    refine .region ?_
    refine asn ?_
    refine rn ?_
    refine .gh (Gh.keep [1, 4, 5, 6, 8, 9] rfl) ?_
    refine .seq ?_
    refine .seq ?_
    refine .region ?_
    refine vk (vmvd) ?_
    refine vk (vlnE (Its_length _) (Its_sz _) gu_Its) ?_
    refine vk (vmvd) ?_
    refine rn ?_
    refine .gh (Gh.keep [1, 4, 5, 6, 8, 9, 47, 48, 49] rfl) ?_
    obtain ⟨K1, hK1, h⟩ := jn_out h
    refine AW.mr (σ := (List Int)) (fun p => K1 p = some r) (fun p => [(1, .d (.sl (Its a1))), (4, .nb [.sl (Is []), .sl (Its [])]), (5, .d (.i .i64 0)), (6, .d (.i .i64 x1.1)), (8, .bp 0 0), (9, .own 3 (Is p))]) (fun p => [HO.box [.d (.sl (Is x4)), .own 38 (Its z5)]]) ?_ ?_
    · skip
      refine .block ?_
      refine .gh (Gh.nlOwn (t := 9) 3 (by rw [gz_int]; decide) rfl) ?_
      refine .loop (.gh (Gh.keep [1, 4, 5, 6, 8, 9, 47, 48, 49] rfl) ?_)
      refine AL.ind (σ := Nat × (List Int) × Int) (m := fun p => p.1) (e := fun p => [(1, .d (.sl (Its a1))), (4, .nb [.sl (Is []), .sl (Its [])]), (5, .d (.i .i64 0)), (6, .d (.i .i64 x1.1)), (8, .bp 0 0), (9, .own 3 (Is p.2.1)), (47, .d (.sl (Its a1))), (48, .d (.i .i64 ((List.length a1 : Nat) : Int))), (49, .d (.i .i64 p.2.2))]) (h := fun p => [HO.box [.d (.sl (Is x4)), .own 38 (Its z5)]]) (I := fun p => array_Make_l2 a1 K1 p.1 p.2.1 p.2.2 = some r) ?_ (FUEL, [], 0) h
      rintro ⟨k, s9, s10⟩ h ih
      dsimp only at h ih ⊢
      rcases k with _ | k
      · rw [array_Make_l2] at h; cases h
      rw [array_Make_l2] at h
      refine .seq ?_
      refine .region ?_
      refine vk (vbi) ?_
      refine rn ?_
      refine .gh (Gh.keep [1, 4, 5, 6, 8, 9, 47, 48, 49, 50] rfl) ?_
      refine .seq ?_
      by_cases hc : s10 < ((List.length a1 : Nat) : Int)
      · replace h := ite_t hc h
        refine cnt (decide_eq_true hc) ?_
        refine .skip ?_
        show AW _ _ _ _ _ _
        obtain ⟨K3, hK3, h⟩ := jn_out h
        refine AW.mj (σ := (List Int)) (fun p => K3 p = some r) (fun p => [(1, .d (.sl (Its a1))), (4, .nb [.sl (Is []), .sl (Its [])]), (5, .d (.i .i64 0)), (6, .d (.i .i64 x1.1)), (8, .bp 0 0), (9, .own 3 (Is p)), (47, .d (.sl (Its a1))), (48, .d (.i .i64 ((List.length a1 : Nat) : Int))), (49, .d (.i .i64 s10))]) (fun p => [HO.box [.d (.sl (Is x4)), .own 38 (Its z5)]]) ?_ ?_
        · skip
          refine .block ?_
          refine .seq ?_
          refine .region ?_
          obtain ⟨x12, hx12, h⟩ := bnd h
          obtain ⟨nx12, hnx12, hxx12⟩ := rd_some hx12
          refine vk (vix nx12 hnx12 (Its_at hxx12) rfl gs_Its) ?_
          refine vk (vlda gA_Itm gS_Itm) ?_
          refine vk (van (zero_of gI_Itm) gZ_Itm) ?_
          refine stn ?_ gS_Itm (by decide)
          refine rn ?_
          refine .gh (Gh.keep [1, 4, 5, 6, 8, 9, 11, 47, 48, 49] rfl) ?_
          refine .seq ?_
          refine .region ?_
          refine asd ?_
          refine rn ?_
          refine .gh (Gh.keep [1, 4, 5, 6, 8, 9, 11, 12, 47, 48, 49] rfl) ?_
          refine .seq ?_
          refine .seq ?_
          refine .gh (Gh.nbp (t := 11) rfl) ?_
          refine .region ?_
          refine vk (vfa gF_Itm_3) ?_
          refine vk (vldp ga_Ars) ?_
          refine vk (vlnE (Ars_length _) (Ars_sz _) gu_Ars) ?_
          refine vk (vmvd) ?_
          refine rn ?_
          refine .gh (Gh.keep [1, 4, 5, 6, 8, 9, 12, 47, 48, 49, 54, 55, 56] rfl) ?_
          obtain ⟨K4, hK4, h⟩ := jn_out h
          refine AW.mr (σ := Int) (fun p => K4 p = some r) (fun p => [(1, .d (.sl (Its a1))), (4, .nb [.sl (Is []), .sl (Its [])]), (5, .d (.i .i64 0)), (6, .d (.i .i64 x1.1)), (8, .bp 0 0), (9, .own 3 (Is s9)), (12, .d (.i .i64 p)), (47, .d (.sl (Its a1))), (48, .d (.i .i64 ((List.length a1 : Nat) : Int))), (49, .d (.i .i64 s10))]) (fun p => [HO.box [.d (.sl (Is x4)), .own 38 (Its z5)]]) ?_ ?_
          · skip
            refine .block ?_
            refine .loop (.gh (Gh.keep [1, 4, 5, 6, 8, 9, 12, 47, 48, 49, 54, 55, 56] rfl) ?_)
            refine AL.ind (σ := Nat × Int × Int) (m := fun p => p.1) (e := fun p => [(1, .d (.sl (Its a1))), (4, .nb [.sl (Is []), .sl (Its [])]), (5, .d (.i .i64 0)), (6, .d (.i .i64 x1.1)), (8, .bp 0 0), (9, .own 3 (Is s9)), (12, .d (.i .i64 p.2.1)), (47, .d (.sl (Its a1))), (48, .d (.i .i64 ((List.length a1 : Nat) : Int))), (49, .d (.i .i64 s10)), (54, .d (.sl (Ars x12.box))), (55, .d (.i .i64 ((List.length x12.box : Nat) : Int))), (56, .d (.i .i64 p.2.2))]) (h := fun p => [HO.box [.d (.sl (Is x4)), .own 38 (Its z5)]]) (I := fun p => array_Make_l5 x12 K4 p.1 p.2.1 p.2.2 = some r) ?_ (FUEL, 1, 0) h
            rintro ⟨k, s14, s15⟩ h ih
            dsimp only at h ih ⊢
            rcases k with _ | k
            · rw [array_Make_l5] at h; cases h
            rw [array_Make_l5] at h
            refine .seq ?_
            refine .region ?_
            refine vk (vbi) ?_
            refine rn ?_
            refine .gh (Gh.keep [1, 4, 5, 6, 8, 9, 12, 47, 48, 49, 54, 55, 56, 57] rfl) ?_
            refine .seq ?_
            by_cases hc : s15 < ((List.length x12.box : Nat) : Int)
            · replace h := ite_t hc h
              refine cnt (decide_eq_true hc) ?_
              refine .skip ?_
              show AW _ _ _ _ _ _
              refine .seq ?_
              refine .block ?_
              refine .seq ?_
              refine .region ?_
              obtain ⟨x16, hx16, h⟩ := bnd h
              obtain ⟨nx16, hnx16, hxx16⟩ := rd_some hx16
              refine vk (vix nx16 hnx16 (Ars_at hxx16) rfl gs_Ars) ?_
              refine vk (vlda gA_Arr gS_Arr) ?_
              refine vk (van (zero_of gI_Arr) gZ_Arr) ?_
              refine stn ?_ gS_Arr (by decide)
              refine rn ?_
              refine .gh (Gh.keep [1, 4, 5, 6, 8, 9, 12, 14, 47, 48, 49, 54, 55, 56] rfl) ?_
              refine .region ?_
              refine vk (vmvd) ?_
              refine vk (vldn gA_Arr gS_Arr) ?_
              obtain ⟨x17, hx17, h⟩ := bnd h
              refine vk (vcl0 (array_Cells_ok hx17) Try.call15) ?_
              refine vk (vbi) ?_
              refine asd ?_
              refine .nil ?_
              show AW _ _ _ _ _ _
              refine .gh (Gh.keep [1, 4, 5, 6, 8, 9, 12, 47, 48, 49, 54, 55, 56] rfl) ?_
              refine .region ?_
              refine vk (vbi) ?_
              refine vk (vmvd) ?_
              refine .nil ?_
              refine AL.gh (Gh.keep [1, 4, 5, 6, 8, 9, 12, 47, 48, 49, 54, 55, 56] rfl) ?_
              exact ih (k, (w64 (s14 + x17)), (w64 (s15 + 1))) h (Nat.lt_succ_self _)
            replace h := ite_f hc h
            refine cnf (decide_eq_false hc) ?_
            refine .gh (Gh.keep [1, 4, 5, 6, 8, 9, 12, 47, 48, 49] rfl) ?_
            refine .exit ?_
            exact jr (s14) h
          rintro z13 h
          try dsimp only at h ⊢
          subst hK4
          show AW _ _ _ _ _ _
          refine .region ?_
          refine mvo ?_
          refine vk (vmvd) ?_
          refine vk ((vbsl (Is_flat [z13]) ge_Is).deep) ?_
          obtain ⟨x18, hx18, h⟩ := bnd h
          refine apr' Is_app hx18 gB_Is ?_ Is_sz1 Is_length ge_Is
          refine aso ?_
          refine RL.gh (Gh.keep [1, 4, 5, 6, 8, 9, 47, 48, 49] rfl) ?_
          refine .nil ?_
          exact jr (x18) h
        rintro z11 h
        try dsimp only at h ⊢
        subst hK3
        refine .region ?_
        refine vk (vbi) ?_
        refine vk (vmvd) ?_
        refine .nil ?_
        refine AL.gh (Gh.keep [1, 4, 5, 6, 8, 9, 47, 48, 49] rfl) ?_
        exact ih (k, z11, (w64 (s10 + 1))) h (Nat.lt_succ_self _)
      replace h := ite_f hc h
      refine cnf (decide_eq_false hc) ?_
      refine .gh (Gh.keep [1, 4, 5, 6, 8, 9] rfl) ?_
      refine .exit ?_
      exact jr (s9) h
    rintro z8 h
    try dsimp only at h ⊢
    subst hK1
    show AW _ _ _ _ _ _
    refine .seq ?_
    refine .seq ?_
    refine .region ?_
    refine asd ?_
    refine asd ?_
    refine rn ?_
    refine .gh (Gh.keep [1, 4, 5, 6, 8, 9, 15, 16] rfl) ?_
    obtain ⟨K6, hK6, h⟩ := jn_out h
    refine AW.mr (σ := Arr × Int × (List Int) × (List Itm)) (fun p => K6 p.1 p.2.1 p.2.2.1 p.2.2.2 = some r) (fun p => [(4, .nb [.sl (Is p.1.shape), .sl (Its p.1.items)]), (5, .d (.i .i64 p.2.1)), (8, .bp 0 0)]) (fun p => [HO.box [.d (.sl (Is p.2.2.1)), .own 38 (Its p.2.2.2)]]) ?_ ?_
    · skip
      refine .block ?_
      refine .gh (Gh.frz (p := .t 9) rfl (by (intro _ _ h; cases h <;> decide))) ?_
      refine .loop (.gh (Gh.keep [1, 4, 5, 6, 8, 9, 15, 16] rfl) ?_)
      refine AL.ind (σ := Nat × Arr × Int × Int × Int × (List Int) × (List Itm)) (m := fun p => p.1) (e := fun p => [(1, .d (.sl (Its a1))), (4, .nb [.sl (Is p.2.1.shape), .sl (Its p.2.1.items)]), (5, .d (.i .i64 p.2.2.1)), (6, .d (.i .i64 x1.1)), (8, .bp 0 0), (9, .d (.sl (Is z8))), (15, .d (.i .i64 p.2.2.2.1)), (16, .d (.i .i64 p.2.2.2.2.1))]) (h := fun p => [HO.box [.d (.sl (Is p.2.2.2.2.2.1)), .own 38 (Its p.2.2.2.2.2.2)]]) (I := fun p => array_Make_l7 a1 x1 z8 K6 p.1 p.2.1 p.2.2.1 p.2.2.2.1 p.2.2.2.2.1 p.2.2.2.2.2.1 p.2.2.2.2.2.2 = some r) ?_ (FUEL, (Arr.mk [] []), 0, 0, 0, x4, z5) h
      rintro ⟨k, s23, s24, s25, s26, s27, s28⟩ h ih
      dsimp only at h ih ⊢
      rcases k with _ | k
      · rw [array_Make_l7] at h; cases h
      rw [array_Make_l7] at h
      refine .seq ?_
      refine .seq ?_
      refine .region ?_
      refine vk (vmvd) ?_
      refine vk (vmvd) ?_
      refine vk (vbi) ?_
      refine rn ?_
      refine .gh (Gh.keep [1, 4, 5, 6, 8, 9, 15, 16, 72] rfl) ?_
      by_cases hc : s25 < x1.1
      · replace h := ite_t hc h
        refine cnt (decide_eq_true hc) ?_
        refine .skip ?_
        show AW _ _ _ _ _ _
        refine .seq ?_
        refine .block ?_
        refine .seq ?_
        refine .seq ?_
        refine .region ?_
        refine vk (vmvd) ?_
        refine vk (vmvd) ?_
        refine vk (vmvd) ?_
        refine vk (vmvd) ?_
        refine vk (vlnE (Its_length _) (Its_sz _) gu_Its) ?_
        obtain ⟨x29, hx29, h⟩ := bnd h
        refine vk (vbic (grd_ok hx29)) ?_
        obtain ⟨x30, hx30, h⟩ := bnd h
        obtain ⟨nx30, hnx30, hxx30⟩ := rd_some hx30
        refine vk (vix nx30 hnx30 (Is_at hxx30) rfl gs_Is) ?_
        refine vk (vldp ga_int) ?_
        refine vk (vbi) ?_
        refine asd ?_
        refine rn ?_
        refine .gh (Gh.keep [1, 4, 5, 6, 8, 9, 15, 16] rfl) ?_
        refine .seq ?_
        refine .region ?_
        refine vk (vmvd) ?_
        refine vk (vbi) ?_
        refine rn ?_
        refine .gh (Gh.keep [1, 4, 5, 6, 8, 9, 15, 16, 85] rfl) ?_
        by_cases hc : 16384 < (w64 (s26 + x30))
        · replace h := ite_t hc h
          refine cnt (decide_eq_true hc) ?_
          refine .seq ?_
          refine .region ?_
          refine vk (vbd gP_Arr gI_Arr gZ_Arr) ?_
          refine stn ?_ gS_Arr (by decide)
          refine asd ?_
          refine rn ?_
          refine .gh (Gh.keep [1, 4, 5, 6, 8, 9, 15, 16] rfl) ?_
          refine .ret ?_
          cases h
          exact ⟨_, _, ⟨.inr rfl, gA_Arr, gS_Arr, (by decide : (0 : Nat) < 2)⟩, rfl, rfl⟩
        replace h := ite_f hc h
        refine cnf (decide_eq_false hc) ?_
        refine .skip ?_
        show AW _ _ _ _ _ _
        refine .drawn 11 mixed (by kernel_rfl) ?_
        refine dv (vfab gF_Arr_1) ?_
        refine dv (vldbo (cs := [.d (.sl (Is s27)), .own 38 (Its s28)]) rfl rfl ga_Its) ?_
        refine dv (vmvd) ?_
        refine dv (vmvd) ?_
        refine dv (vmvd) ?_
        refine dv (vlnE (Its_length _) (Its_sz _) gu_Its) ?_
        obtain ⟨x31, hx31, h⟩ := bnd h
        refine dv (vbic (grd_ok hx31)) ?_
        obtain ⟨x32, hx32, h⟩ := bnd h
        obtain ⟨nx32, hnx32, hxx32⟩ := rd_some hx32
        refine dv (vix nx32 hnx32 (Its_at hxx32) rfl gs_Its) ?_
        refine dv (vlda gA_Itm gS_Itm) ?_
        obtain ⟨x33, hx33, h⟩ := bnd h
        refine dv (vcl0 (ar_same_ok hx33) Try.call60) ?_
        refine dv ((vbslE (Its_bs1 x33) (Its_flat [x33]) ge_Its).deep) ?_
        refine dz ?_
        obtain ⟨x34, hx34, h⟩ := bnd h
        refine apc' Its_app hx34 rfl rfl gB_Its ?_ Its_sz1 Its_length ge_Its
        refine RL.gh (Gh.keep [1, 4, 5, 6, 8, 9, 15, 16, 85, 87, 89, 90, 91, 92, 93, 94, 95, 96, 97, 98] rfl) ?_
        refine vk (vfab gF_Arr_1) ?_
        refine stbo (cs := [.d (.sl (Is s27)), .un]) (c := .un) rfl rfl ?_ gz_Its
        refine .nil ?_
        show AW _ _ _ _ _ _
        refine .gh (Gh.keep [1, 4, 5, 6, 8, 9, 15, 16] rfl) ?_
        refine .region ?_
        refine vk (vmvd) ?_
        refine vk (vbi) ?_
        refine asd ?_
        refine .nil ?_
        refine AL.gh (Gh.keep [1, 4, 5, 6, 8, 9, 15, 16] rfl) ?_
        exact ih (k, s23, s24, (w64 (s25 + 1)), (w64 (s26 + x30)), s27, x34) h (Nat.lt_succ_self _)
      replace h := ite_f hc h
      refine cnf (decide_eq_false hc) ?_
      refine .gh (Gh.keep [4, 5, 8] rfl) ?_
      refine .exit ?_
      exact jr (s23, s24, s27, s28) h
    rintro ⟨z19, z20, z21, z22⟩ h
    try dsimp only at h ⊢
    subst hK6
    show AW _ _ _ _ _ _
    refine .seq ?_
    refine .seq ?_
    refine .region ?_
    refine fz (p := .c 0 1) ?_
    refine vk (vldba (cs := [.d (.sl (Is z21)), .d (.sl (Its z22))]) (ds := [.sl (Is z21), .sl (Its z22)]) rfl gA_Arr gS_Arr) ?_
    obtain ⟨x35, hx35, h⟩ := bnd h
    refine vk (vcl0 (array_Right_ok hx35) Try.call12) ?_
    refine vk (vnt) ?_
    refine rn ?_
    refine .gh (Gh.keep [4, 5, 8, 102] rfl) ?_
    by_cases hc : x35 = true
    · replace h := ite_t hc h
      refine cnf (ntf hc) ?_
      refine .skip ?_
      show AW _ _ _ _ _ _
      refine .seq ?_
      refine .region ?_
      refine vk (vldba (cs := [.d (.sl (Is z21)), .d (.sl (Its z22))]) (ds := [.sl (Is z21), .sl (Its z22)]) rfl gA_Arr gS_Arr) ?_
      refine stn ?_ gS_Arr (by decide)
      refine asd ?_
      refine rn ?_
      refine .gh (Gh.keep [4, 5] rfl) ?_
      refine .ret ?_
      cases h
      exact ⟨_, _, ⟨.inr rfl, gA_Arr, gS_Arr, (by decide : (0 : Nat) < 2)⟩, rfl, rfl⟩
    replace h := ite_f hc h
    refine cnt (ntt (bf hc)) ?_
    refine .seq ?_
    refine .region ?_
    refine vk (vbd gP_Arr gI_Arr gZ_Arr) ?_
    refine stn ?_ gS_Arr (by decide)
    refine asd ?_
    refine rn ?_
    refine .gh (Gh.keep [4, 5, 8] rfl) ?_
    refine .ret ?_
    cases h
    exact ⟨_, _, ⟨.inr rfl, gA_Arr, gS_Arr, (by decide : (0 : Nat) < 2)⟩, rfl, rfl⟩
  replace h := ite_f hc h
  refine cnt (ntt (decide_eq_false hc)) ?_
  refine .seq ?_
  refine .region ?_
  refine vk (vbd gP_Arr gI_Arr gZ_Arr) ?_
  refine vk (vmvd) ?_
  refine stn ?_ gS_Arr (by decide)
  refine asd ?_
  refine rn ?_
  refine .gh (Gh.keep [0, 1, 4, 5, 6] rfl) ?_
  refine .ret ?_
  cases h
  exact ⟨_, _, ⟨.inr rfl, gA_Arr, gS_Arr, (by decide : (0 : Nat) < 2)⟩, rfl, rfl⟩

def array_Items (a0 : Arr) : Option ((List Itm)) := ((array_Size a0.shape).bind fun x1 => (Option.bind ((if x1.1 = 0 then (some true) else ((array_Right a0).bind fun x3 => (some (!x3)))) : Option (Bool)) fun (z2 : Bool) => (if z2 = true then (some ([])) else ((array_copied a0 (⟨.fn 60 [] [], fun x => ar_same x⟩ : FT_Itm__Itm)).bind fun x4 => (some (x4.items))))))
theorem array_Items_ok {a0 : Arr} {r : (List Itm)} (h : array_Items a0 = some r) :
    Fn Try.prog 53 [.ag [.sl (Is a0.shape), .sl (Its a0.items)]] (.d (.sl (Its r))) := by
  unfold array_Items at h
  refine Fn.of (rs := [.tmp 2]) (nt := 21) Try.func53 rfl rfl rfl (by simp) rfl ?_
  refine .seq ?_
  refine .region ?_
  refine vk (vbx) ?_
  refine asn ?_
  refine rn ?_
  refine .gh (Gh.keep [1, 2] rfl) ?_
  refine .seq ?_
  refine .seq ?_
  refine .region ?_
  refine vk (vfa gF_Arr_0) ?_
  refine vk (vldp ga_Is) ?_
  obtain ⟨x1, hx1, h⟩ := bnd h
  refine vk (VOK.tupd (vs := [.i .i64 x1.1, .i .i64 x1.2]) (vcl0 (array_Size_ok hx1) Try.call54)) ?_
  refine vk (vmvd) ?_
  refine vk (vex) ?_
  refine vk (vex) ?_
  refine asd ?_
  refine asd ?_
  refine rn ?_
  refine .gh (Gh.keep [1, 2, 3] rfl) ?_
  refine .seq ?_
  obtain ⟨z2, hz, h⟩ := bnd h
  refine AW.mr (σ := Unit) (fun _ => True) (fun _ => [(1, .d (.ptr [.sl (Is a0.shape), .sl (Its a0.items)])), (2, .nl), (17, .d (.b z2))]) (fun _ => []) ?_ ?_
  · skip
    refine .region ?_
    refine vk (vmvd) ?_
    refine vk (vbi) ?_
    by_cases hc : x1.1 = 0
    · replace hz := ite_t hc hz
      have hb0 : (decide (x1.1 = 0)) = true := (decide_eq_true hc)
      refine vk (VOK.lit (vmvd) hb0) ?_
      refine gf ?_
      refine gf ?_
      refine gf ?_
      refine vk (vpkd) ?_
      refine RL.gh (Gh.keep [1, 2, 17] rfl) ?_
      refine .nil ?_
      cases hz
      exact jr () trivial
    replace hz := ite_f hc hz
    have hb0 : (decide (x1.1 = 0)) = false := (decide_eq_false hc)
    refine vk (VOK.lit (vmvd) hb0) ?_
    refine vk (vlda gA_Arr gS_Arr) ?_
    obtain ⟨x3, hx3, hz⟩ := bnd hz
    refine vk (vcl0 (array_Right_ok hx3) Try.call12) ?_
    refine vk (vnt) ?_
    refine vk (vpkd) ?_
    refine RL.gh (Gh.keep [1, 2, 17] rfl) ?_
    refine .nil ?_
    cases hz
    exact jr () trivial
  rintro _ _
  by_cases hc : z2 = true
  · replace h := ite_t hc h
    refine cnt hc ?_
    refine .seq ?_
    refine .region ?_
    refine asn ?_
    refine rn ?_
    refine .gh (Gh.keep [1, 2] rfl) ?_
    refine .gh (Gh.nlD (t := 2) rfl) ?_
    refine .ret ?_
    cases h
    exact ⟨rfl, rfl⟩
  replace h := ite_f hc h
  refine cnf (bf hc) ?_
  refine .skip ?_
  show AW _ _ _ _ _ _
  refine .seq ?_
  refine .region ?_
  refine vk (vlda gA_Arr gS_Arr) ?_
  obtain ⟨x4, hx4, h⟩ := bnd h
  refine vk (vcl0 (array_copied_ok (FWOK Try.call60 (fun _ _ h => ar_same_ok h)) hx4) Try.call61) ?_
  refine vk (vfdl gF_Arr_1 gG_Arr_1) ?_
  refine asd ?_
  refine rn ?_
  refine .gh (Gh.keep [2] rfl) ?_
  refine .ret ?_
  cases h
  exact ⟨rfl, rfl⟩

def array_Enclose (a0 : Arr) : Option (Itm) := ((array_Right a0).bind fun x1 => (if x1 = true then ((array_isSimple a0).bind fun x2 => (if x2 = true then ((rd? a0.items 0).bind fun x3 => ((ar_same x3).bind fun x4 => (some (x4)))) else ((array_copied a0 (⟨.fn 60 [] [], fun x => ar_same x⟩ : FT_Itm__Itm)).bind fun x5 => (some ((Itm.mk 3 (false, [], []) 0 [x5])))))) else (some ((Itm.mk 0 (false, [], []) 0 [])))))
theorem array_Enclose_ok {a0 : Arr} {r : Itm} (h : array_Enclose a0 = some r) :
    Fn Try.prog 18 [.ag [.sl (Is a0.shape), .sl (Its a0.items)]] (.d (.ag [.i .u8 r.kind, .b r.num.1, .sl (L r.num.2.1), .sl (L r.num.2.2), .i .i32 r.char, .sl (Ars r.box)])) := by
  unfold array_Enclose at h
  refine Fn.ofC (rs := [.cell 2 38]) (nt := 20) Try.func18 rfl rfl rfl (by simp) rfl ?_
  refine .seq ?_
  refine .region ?_
  refine vk (vbx) ?_
  refine vk (van (zero_of gI_Itm) gZ_Itm) ?_
  refine rn ?_
  refine .gh (Gh.keep [1, 2] rfl) ?_
  refine .seq ?_
  refine .block ?_
  refine .seq ?_
  refine .region ?_
  refine vk (vlda gA_Arr gS_Arr) ?_
  obtain ⟨x1, hx1, h⟩ := bnd h
  refine vk (vcl0 (array_Right_ok hx1) Try.call12) ?_
  refine vk (vnt) ?_
  refine asd ?_
  refine rn ?_
  refine .gh (Gh.keep [1, 2, 3] rfl) ?_
  by_cases hc : x1 = true
  · replace h := ite_t hc h
    refine cnf (ntf hc) ?_
    refine .seq ?_
    refine .region ?_
    refine vk (vlda gA_Arr gS_Arr) ?_
    obtain ⟨x2, hx2, h⟩ := bnd h
    refine vk (vcl0 (array_isSimple_ok hx2) Try.call52) ?_
    refine asd ?_
    refine rn ?_
    refine .gh (Gh.keep [1, 2, 8] rfl) ?_
    by_cases hc : x2 = true
    · replace h := ite_t hc h
      refine cnt hc ?_
      refine .seq ?_
      refine .region ?_
      refine vk (vfa gF_Arr_1) ?_
      refine vk (vldp ga_Its) ?_
      obtain ⟨x3, hx3, h⟩ := bnd h
      obtain ⟨nx3, hnx3, hxx3⟩ := rd_some hx3
      refine vk (vix nx3 hnx3 (Its_at hxx3) rfl gs_Its) ?_
      refine vk (vlda gA_Itm gS_Itm) ?_
      obtain ⟨x4, hx4, h⟩ := bnd h
      refine vk (vcl0 (ar_same_ok hx4) Try.call60) ?_
      refine stn ?_ gS_Itm (by decide)
      refine rn ?_
      refine .gh (Gh.keep [1, 2] rfl) ?_
      refine .ret ?_
      cases h
      exact ⟨_, ⟨.inr rfl, gA_Itm, gS_Itm, (by decide : (0 : Nat) < 6)⟩, rfl⟩
    replace h := ite_f hc h
    refine cnf (bf hc) ?_
    refine .skip ?_
    show AW _ _ _ _ _ _
    refine .seq ?_
    refine .region ?_
    refine vk (vlda gA_Arr gS_Arr) ?_
    obtain ⟨x5, hx5, h⟩ := bnd h
    refine vk (vcl0 (array_copied_ok (FWOK Try.call60 (fun _ _ h => ar_same_ok h)) hx5) Try.call61) ?_
    refine vk ((vbslE (Ars_bs1 x5) (Ars_flat [x5]) ge_Ars).deep) ?_
    refine vk (vbd gP_Itm gI_Itm gZ_Itm) ?_
    refine stn ?_ gS_Itm (by decide)
    refine rn ?_
    refine .gh (Gh.keep [2] rfl) ?_
    refine .ret ?_
    cases h
    exact ⟨_, ⟨.inr rfl, gA_Itm, gS_Itm, (by decide : (0 : Nat) < 6)⟩, rfl⟩
  replace h := ite_f hc h
  refine cnt (ntt (bf hc)) ?_
  refine .seq ?_
  refine .region ?_
  refine vk (vbd gP_Itm gI_Itm gZ_Itm) ?_
  refine stn ?_ gS_Itm (by decide)
  refine rn ?_
  refine .gh (Gh.keep [1, 2] rfl) ?_
  refine .ret ?_
  cases h
  exact ⟨_, ⟨.inr rfl, gA_Itm, gS_Itm, (by decide : (0 : Nat) < 6)⟩, rfl⟩

def array_Open (a0 : Itm) : Option (Arr) := ((arRightItem a0).bind fun x1 => (if x1 = true then (if a0.kind = 3 then ((rd? a0.box 0).bind fun x2 => ((array_copied x2 (⟨.fn 60 [] [], fun x => ar_same x⟩ : FT_Itm__Itm)).bind fun x3 => (some (x3)))) else ((ar_same a0).bind fun x4 => ((array_scalar x4).bind fun x5 => (some (x5))))) else (some ((Arr.mk [] [])))))
theorem array_Open_ok {a0 : Itm} {r : Arr} (h : array_Open a0 = some r) :
    Fn Try.prog 48 [.ag [.i .u8 a0.kind, .b a0.num.1, .sl (L a0.num.2.1), .sl (L a0.num.2.2), .i .i32 a0.char, .sl (Ars a0.box)]] (.d (.ag [.sl (Is r.shape), .sl (Its r.items)])) := by
  unfold array_Open at h
  refine Fn.ofC (rs := [.cell 2 25]) (nt := 20) Try.func48 rfl rfl rfl (by simp) rfl ?_
  refine .seq ?_
  refine .region ?_
  refine vk (vbx) ?_
  refine vk (van (zero_of gI_Arr) gZ_Arr) ?_
  refine rn ?_
  refine .gh (Gh.keep [1, 2] rfl) ?_
  refine .seq ?_
  refine .block ?_
  refine .seq ?_
  refine .region ?_
  refine vk (vlda gA_Itm gS_Itm) ?_
  obtain ⟨x1, hx1, h⟩ := bnd h
  refine vk (vcl0 (arRightItem_ok hx1) Try.call57) ?_
  refine vk (vnt) ?_
  refine asd ?_
  refine rn ?_
  refine .gh (Gh.keep [1, 2, 3] rfl) ?_
  by_cases hc : x1 = true
  · replace h := ite_t hc h
    refine cnf (ntf hc) ?_
    refine .seq ?_
    refine .region ?_
    refine vk (vfa gF_Itm_0) ?_
    refine vk (vldp ga_ItemKind) ?_
    refine vk (vbi) ?_
    refine asd ?_
    refine rn ?_
    refine .gh (Gh.keep [1, 2, 8] rfl) ?_
    by_cases hc : a0.kind = 3
    · replace h := ite_t hc h
      refine cnt (decide_eq_true hc) ?_
      refine .seq ?_
      refine .region ?_
      refine vk (vfa gF_Itm_3) ?_
      refine vk (vldp ga_Ars) ?_
      obtain ⟨x2, hx2, h⟩ := bnd h
      obtain ⟨nx2, hnx2, hxx2⟩ := rd_some hx2
      refine vk (vix nx2 hnx2 (Ars_at hxx2) rfl gs_Ars) ?_
      refine vk (vlda gA_Arr gS_Arr) ?_
      obtain ⟨x3, hx3, h⟩ := bnd h
      refine vk (vcl0 (array_copied_ok (FWOK Try.call60 (fun _ _ h => ar_same_ok h)) hx3) Try.call61) ?_
      refine stn ?_ gS_Arr (by decide)
      refine rn ?_
      refine .gh (Gh.keep [1, 2] rfl) ?_
      refine .ret ?_
      cases h
      exact ⟨_, ⟨.inr rfl, gA_Arr, gS_Arr, (by decide : (0 : Nat) < 2)⟩, rfl⟩
    replace h := ite_f hc h
    refine cnf (decide_eq_false hc) ?_
    refine .skip ?_
    show AW _ _ _ _ _ _
    refine .seq ?_
    refine .region ?_
    refine vk (vlda gA_Itm gS_Itm) ?_
    obtain ⟨x4, hx4, h⟩ := bnd h
    refine vk (vcl0 (ar_same_ok hx4) Try.call60) ?_
    obtain ⟨x5, hx5, h⟩ := bnd h
    refine vk (vcl0 (array_scalar_ok hx5) Try.call70) ?_
    refine stn ?_ gS_Arr (by decide)
    refine rn ?_
    refine .gh (Gh.keep [2] rfl) ?_
    refine .ret ?_
    cases h
    exact ⟨_, ⟨.inr rfl, gA_Arr, gS_Arr, (by decide : (0 : Nat) < 2)⟩, rfl⟩
  replace h := ite_f hc h
  refine cnt (ntt (bf hc)) ?_
  refine .seq ?_
  refine .region ?_
  refine vk (vbd gP_Arr gI_Arr gZ_Arr) ?_
  refine stn ?_ gS_Arr (by decide)
  refine rn ?_
  refine .gh (Gh.keep [1, 2] rfl) ?_
  refine .ret ?_
  cases h
  exact ⟨_, ⟨.inr rfl, gA_Arr, gS_Arr, (by decide : (0 : Nat) < 2)⟩, rfl⟩

def array_Type (a0 : Arr) : Option (Arr) := ((array_Right a0).bind fun x1 => (if x1 = true then ((array_copied a0 (⟨.fn 59 [] [], fun x => ar_typed x⟩ : FT_Itm__Itm)).bind fun x2 => (some (x2))) else (some ((Arr.mk [] [])))))
theorem array_Type_ok {a0 : Arr} {r : Arr} (h : array_Type a0 = some r) :
    Fn Try.prog 46 [.ag [.sl (Is a0.shape), .sl (Its a0.items)]] (.d (.ag [.sl (Is r.shape), .sl (Its r.items)])) := by
  unfold array_Type at h
  refine Fn.ofC (rs := [.cell 2 25]) (nt := 9) Try.func46 rfl rfl rfl (by simp) rfl ?_
  refine .seq ?_
  refine .region ?_
  refine vk (vbx) ?_
  refine vk (van (zero_of gI_Arr) gZ_Arr) ?_
  refine rn ?_
  refine .gh (Gh.keep [1, 2] rfl) ?_
  refine .seq ?_
  refine .seq ?_
  refine .region ?_
  refine vk (vlda gA_Arr gS_Arr) ?_
  obtain ⟨x1, hx1, h⟩ := bnd h
  refine vk (vcl0 (array_Right_ok hx1) Try.call12) ?_
  refine vk (vnt) ?_
  refine rn ?_
  refine .gh (Gh.keep [1, 2, 5] rfl) ?_
  by_cases hc : x1 = true
  · replace h := ite_t hc h
    refine cnf (ntf hc) ?_
    refine .skip ?_
    show AW _ _ _ _ _ _
    refine .seq ?_
    refine .region ?_
    refine vk (vlda gA_Arr gS_Arr) ?_
    obtain ⟨x2, hx2, h⟩ := bnd h
    refine vk (vcl0 (array_copied_ok (FWOK Try.call59 (fun _ _ h => ar_typed_ok h)) hx2) Try.call61) ?_
    refine stn ?_ gS_Arr (by decide)
    refine rn ?_
    refine .gh (Gh.keep [2] rfl) ?_
    refine .ret ?_
    cases h
    exact ⟨_, ⟨.inr rfl, gA_Arr, gS_Arr, (by decide : (0 : Nat) < 2)⟩, rfl⟩
  replace h := ite_f hc h
  refine cnt (ntt (bf hc)) ?_
  refine .seq ?_
  refine .region ?_
  refine vk (vbd gP_Arr gI_Arr gZ_Arr) ?_
  refine stn ?_ gS_Arr (by decide)
  refine rn ?_
  refine .gh (Gh.keep [1, 2] rfl) ?_
  refine .ret ?_
  cases h
  exact ⟨_, ⟨.inr rfl, gA_Arr, gS_Arr, (by decide : (0 : Nat) < 2)⟩, rfl⟩

def array_ToInt (a0 : Arr) : Option (Int × Bool) := ((array_Items a0).bind fun x1 => (Option.bind ((if ((List.length x1 : Nat) : Int) = 1 then ((rd? x1 0).bind fun x3 => (some (!(decide (x3.kind = 1))))) else (some true)) : Option (Bool)) fun (z2 : Bool) => (if z2 = true then (some (0, false)) else ((rd? x1 0).bind fun x4 => ((ratToInt x4.num).bind fun x5 => (some (x5.1, x5.2)))))))
theorem array_ToInt_ok {a0 : Arr} {r : Int × Bool} (h : array_ToInt a0 = some r) :
    Fn Try.prog 23 [.ag [.sl (Is a0.shape), .sl (Its a0.items)]] (.tup [.d (.i .i64 r.1), .d (.b r.2)]) := by
  unfold array_ToInt at h
  refine Fn.of (rs := [.tmp 2, .tmp 3]) (nt := 24) Try.func23 rfl rfl rfl (by simp) rfl ?_
  refine .seq ?_
  refine .region ?_
  refine vk (vbx) ?_
  refine asd ?_
  refine asd ?_
  refine rn ?_
  refine .gh (Gh.keep [1, 2, 3] rfl) ?_
  refine .seq ?_
  refine .region ?_
  refine vk (vlda gA_Arr gS_Arr) ?_
  obtain ⟨x1, hx1, h⟩ := bnd h
  refine vk (vcl0 (array_Items_ok hx1) Try.call53) ?_
  refine asd ?_
  refine rn ?_
  refine .gh (Gh.keep [2, 3, 4] rfl) ?_
  refine .seq ?_
  refine .seq ?_
  obtain ⟨z2, hz, h⟩ := bnd h
  refine AW.mr (σ := Unit) (fun _ => True) (fun _ => [(2, .d (.i .i64 0)), (3, .d (.b false)), (4, .d (.sl (Its x1))), (16, .d (.b z2))]) (fun _ => []) ?_ ?_
  · skip
    refine .region ?_
    refine vk (vmvd) ?_
    refine vk (vlnE (Its_length _) (Its_sz _) gu_Its) ?_
    refine vk (vbi) ?_
    by_cases hc : ((List.length x1 : Nat) : Int) = 1
    · replace hz := ite_t hc hz
      have hb0 : (!(decide (((List.length x1 : Nat) : Int) = 1))) = false := (ntf (decide_eq_true hc))
      refine vk (VOK.lit (vmvd) hb0) ?_
      refine vk (vmvd) ?_
      obtain ⟨x3, hx3, hz⟩ := bnd hz
      obtain ⟨nx3, hnx3, hxx3⟩ := rd_some hx3
      refine vk (vix nx3 hnx3 (Its_at hxx3) rfl gs_Its) ?_
      refine vk (vfa gF_Itm_0) ?_
      refine vk (vldp ga_ItemKind) ?_
      refine vk (vbi) ?_
      refine vk (vpkd) ?_
      refine RL.gh (Gh.keep [2, 3, 4, 16] rfl) ?_
      refine .nil ?_
      cases hz
      exact jr () trivial
    replace hz := ite_f hc hz
    have hb0 : (!(decide (((List.length x1 : Nat) : Int) = 1))) = true := (ntt (decide_eq_false hc))
    refine vk (VOK.lit (vmvd) hb0) ?_
    refine gf ?_
    refine gf ?_
    refine gf ?_
    refine gf ?_
    refine gf ?_
    refine vk (vpkd) ?_
    refine RL.gh (Gh.keep [2, 3, 4, 16] rfl) ?_
    refine .nil ?_
    cases hz
    exact jr () trivial
  rintro _ _
  by_cases hc : z2 = true
  · replace h := ite_t hc h
    refine cnt hc ?_
    refine .seq ?_
    refine .region ?_
    refine asd ?_
    refine asd ?_
    refine rn ?_
    refine .gh (Gh.keep [2, 3, 4] rfl) ?_
    refine .ret ?_
    cases h
    exact ⟨by decide, rfl, rfl, rfl⟩
  replace h := ite_f hc h
  refine cnf (bf hc) ?_
  refine .skip ?_
  show AW _ _ _ _ _ _
  refine .seq ?_
  refine .region ?_
  refine vk (vmvd) ?_
  obtain ⟨x4, hx4, h⟩ := bnd h
  obtain ⟨nx4, hnx4, hxx4⟩ := rd_some hx4
  refine vk (vix nx4 hnx4 (Its_at hxx4) rfl gs_Its) ?_
  refine vk (vfa gF_Itm_1) ?_
  refine vk (vlda gA_R gS_R) ?_
  obtain ⟨x5, hx5, h⟩ := bnd h
  refine vk (VOK.tupd (vs := [.i .i64 x5.1, .b x5.2]) (vcl0 (ratToInt_ok hx5) Try.call68)) ?_
  refine vk (vex) ?_
  refine vk (vex) ?_
  refine asd ?_
  refine asd ?_
  refine rn ?_
  refine .gh (Gh.keep [2, 3] rfl) ?_
  refine .ret ?_
  cases h
  exact ⟨by decide, rfl, rfl, rfl⟩
end Go.FL
/-
  Plain laws of arrays, 2: what is right, how deep, how great.
-/
namespace Go.FL
open Go Go.Proofs

def chB (c : Int) : Bool := decide (0 ≤ c) && (decide (c ≤ 1114111) && (decide (c < 55296) || decide (57343 < c)))
theorem isChar_eq (c : Int) : array_isChar c = some (chB c) := rfl
/-- A scalar of a number or a character. -/
def simpleB (a : Arr) : Bool := a.shape.isEmpty && match a.items with
  | [x] => decide (x.kind ≠ 3)
  | _ => false
theorem isSimple_eq (a : Arr) : array_isSimple a = some (simpleB a) := by
  unfold array_isSimple simpleB
  cases hs : a.shape with
  | nil =>
    rw [if_pos (by simp)]
    match hi : a.items with
    | [] => rw [if_neg (by simp)]; rfl
    | [x] => rw [if_pos (by simp), rd_0]; simp
    | x :: y :: r => rw [if_neg (by simp; omega)]; rfl
  | cons z zs => rw [if_neg (by simp; omega)]; rfl
mutual
/-- What the document calls right, but for depth and cells. -/
def rI : Itm → Bool
  | .mk k n c b => if k = 1 then (rightR n && (decide (c = 0) && decide (b.length = 0))) else if k = 2 then (chB c && (noNumB (.mk k n c b) && decide (b.length = 0))) else if k = 3 then (decide (b.length = 1) && (noNumB (.mk k n c b) && (decide (c = 0) && rBs b))) else false
def rA : Arr → Bool
  | .mk s i => decide ((szP s).2 = 0) && (decide ((i.length : Int) = if (szP s).1 < 1 then 1 else (szP s).1) && rIs i)
def rIs : List Itm → Bool
  | [] => true
  | x :: xs => rI x && rIs xs
def rBs : List Arr → Bool
  | [] => true
  | a :: r => (!simpleB a && rA a) && rBs r
end
mutual
def cI : Itm → Nat
  | .mk _ _ _ b => cBs b
/-- How many cells. -/
def cA : Arr → Nat
  | .mk _ i => i.length + cIs i
def cIs : List Itm → Nat
  | [] => 0
  | x :: xs => cI x + cIs xs
def cBs : List Arr → Nat
  | [] => 0
  | a :: r => cA a + cBs r
end
mutual
def dI : Itm → Nat
  | .mk _ _ _ b => dBs b
/-- How deep. -/
def dA : Arr → Nat
  | .mk s i => if simpleB (.mk s i) then 0 else 1 + dIs i
def dIs : List Itm → Nat
  | [] => 0
  | x :: xs => max (dI x) (dIs xs)
def dBs : List Arr → Nat
  | [] => 0
  | a :: r => max (dA a) (dBs r)
end
theorem rI_eq (x : Itm) : rI x = if x.kind = 1 then (rightR x.num && (decide (x.char = 0) && decide (x.box.length = 0))) else if x.kind = 2 then (chB x.char && (noNumB x && decide (x.box.length = 0))) else if x.kind = 3 then (decide (x.box.length = 1) && (noNumB x && (decide (x.char = 0) && rBs x.box))) else false := by
  cases x; simp only [rI]; rfl
theorem rA_eq (a : Arr) : rA a = (decide ((szP a.shape).2 = 0) && (decide ((a.items.length : Int) = if (szP a.shape).1 < 1 then 1 else (szP a.shape).1) && rIs a.items)) := by cases a; simp only [rA]; rfl
theorem cA_eq (a : Arr) : cA a = a.items.length + cIs a.items := by cases a; simp only [cA]; rfl
theorem cI_eq (x : Itm) : cI x = cBs x.box := by cases x; simp only [cI]; rfl
theorem dA_eq (a : Arr) : dA a = if simpleB a then 0 else 1 + dIs a.items := by cases a; simp only [dA]; rfl
theorem dI_eq (x : Itm) : dI x = dBs x.box := by cases x; simp only [dI]; rfl
/-- The depth so far. -/
def up (d deep n : Nat) : Nat := if n = 0 then d else max d (deep + n)
theorem up_up (d deep n m : Nat) : up (up d deep n) deep m = up d deep (max n m) := by unfold up; split <;> split <;> split <;> omega
theorem up_le {d deep n : Nat} (h : d ≤ 16) (h2 : deep + n ≤ 16) : up d deep n ≤ 16 := by unfold up; split <;> omega
/-- What a measuring gives. -/
def Meas (f : Int → Int → Int → Option M3) (r : Bool) (n dp : Nat) : Prop := ∀ deep c d : Nat, deep ≤ 16 → c ≤ 16384 → d ≤ 16 →
  (r = true → deep + dp ≤ 16 → c + n ≤ 16384 → f deep c d = some (true, ((c + n : Nat) : Int), ((up d deep dp : Nat) : Int))) ∧
  (¬ (r = true ∧ deep + dp ≤ 16 ∧ c + n ≤ 16384) → ∃ z, f deep c d = some (false, z))
theorem noNumB_iff (x : Itm) : noNumB x = true ↔ x.num = (false, [], []) := by
  unfold noNumB
  simp only [Bool.and_eq_true, Bool.not_eq_true', decide_eq_true_eq]
  constructor
  · rintro ⟨h1, h2, h3⟩
    exact Prod.ext h1 (Prod.ext (List.length_eq_zero_iff.1 (by omega)) (List.length_eq_zero_iff.1 (by omega)))
  · intro h; rw [h]; simp
theorem meas_item {rc : Arr → Int → Int → Int → Option M3} {x : Itm} (hx : okI x) (hrc : ∀ a ∈ x.box, Meas (rc a) (rA a) (cA a) (dA a)) : Meas (mItB rc x) (rI x) (cI x) (dI x) := by
  have ox := (okI_iff x).1 hx
  intro deep c d h1 h2 h3
  unfold mItB
  rw [rI_eq, cI_eq, dI_eq]
  have e0 : (((x.box.length : Nat) : Int) = 0) ↔ x.box.length = 0 := by omega
  have e1 : (((x.box.length : Nat) : Int) = 1) ↔ x.box.length = 1 := by omega
  by_cases k1 : x.kind = 1
  · rw [if_pos k1, if_pos k1, ratRight_eq ox.2.1, Option.bind_some]
    simp only [e0]
    by_cases hb : x.box.length = 0
    · have : x.box = [] := List.length_eq_zero_iff.1 hb
      rw [this]
      simp only [cBs, dBs, List.length_nil, decide_true, Bool.and_true, Nat.add_zero]
      refine ⟨fun hr _ _ => by rw [hr]; rfl, fun hn => ?_⟩
      have : (rightR x.num && decide (x.char = 0)) = false := by
        cases hq : (rightR x.num && decide (x.char = 0)) with
        | false => rfl
        | true => exact absurd ⟨hq, h1, h2⟩ hn
      rw [this]; exact ⟨_, rfl⟩
    · simp only [hb, decide_false, Bool.and_false]
      exact ⟨fun h => by simp at h, fun _ => ⟨_, rfl⟩⟩
  rw [if_neg k1, if_neg k1]
  by_cases k2 : x.kind = 2
  · rw [if_pos k2, if_pos k2, isChar_eq, Option.bind_some]
    simp only [e0]
    by_cases hb : x.box.length = 0
    · have : x.box = [] := List.length_eq_zero_iff.1 hb
      rw [this]
      simp only [cBs, dBs, List.length_nil, decide_true, Bool.and_true, Nat.add_zero]
      refine ⟨fun hr _ _ => by rw [hr]; rfl, fun hn => ?_⟩
      have : (chB x.char && noNumB x) = false := by
        cases hq : (chB x.char && noNumB x) with
        | false => rfl
        | true => exact absurd ⟨hq, h1, h2⟩ hn
      rw [this]; exact ⟨_, rfl⟩
    · simp only [hb, decide_false, Bool.and_false]
      exact ⟨fun h => by simp at h, fun _ => ⟨_, rfl⟩⟩
  rw [if_neg k2, if_neg k2]
  by_cases k3 : x.kind = 3
  · rw [if_pos k3, if_pos k3]
    simp only [e1]
    by_cases hb : x.box.length = 1
    rotate_left
    · rw [if_neg hb]; simp only [hb, decide_false, Bool.false_and]
      exact ⟨fun h => by simp at h, fun _ => ⟨_, rfl⟩⟩
    rw [if_pos hb]
    by_cases hn : noNumB x = true
    rotate_left
    · rw [if_neg hn]; simp only [hn, hb, decide_true, Bool.true_and, Bool.false_and]
      exact ⟨fun h => by simp at h, fun _ => ⟨_, rfl⟩⟩
    rw [if_pos hn]
    by_cases hc : x.char = 0
    rotate_left
    · rw [if_neg hc]; simp only [hn, hb, hc, decide_true, decide_false, Bool.true_and, Bool.false_and]
      exact ⟨fun h => by simp at h, fun _ => ⟨_, rfl⟩⟩
    rw [if_pos hc]
    obtain ⟨a, ha⟩ : ∃ a, x.box = [a] := List.length_eq_one_iff.1 hb
    have hm := hrc a (by rw [ha]; simp)
    rw [ha, rd_0, Option.bind_some, isSimple_eq, Option.bind_some]
    simp only [hn, hc, decide_true, Bool.true_and, rBs, cBs, dBs, Bool.and_true, Nat.add_zero, Nat.max_zero, List.length_cons, List.length_nil]
    by_cases hs : simpleB a = true
    · rw [if_pos hs]; simp only [hs]
      exact ⟨fun h => by simp at h, fun _ => ⟨_, rfl⟩⟩
    rw [if_neg hs, Option.bind_some]
    have hs' : simpleB a = false := by simpa using hs
    simp only [hs', Bool.not_false, Bool.true_and]
    obtain ⟨m1, m2⟩ := hm deep c d h1 h2 h3
    refine ⟨fun hr g1 g2 => by rw [m1 hr g1 g2]; rfl, fun hn => ?_⟩
    obtain ⟨z, hz⟩ := m2 hn
    exact ⟨z, by rw [hz]; rfl⟩
  · rw [if_neg k3, if_neg k3]
    exact ⟨fun h => by simp at h, fun _ => ⟨_, rfl⟩⟩
theorem meas_items {rc : Arr → Int → Int → Int → Option M3} : ∀ {xs : List Itm}, (∀ x ∈ xs, Meas (mItB rc x) (rI x) (cI x) (dI x)) → Meas (fun deep c d => mItsB rc deep xs c d) (rIs xs) (cIs xs) (dIs xs)
  | [], _ => fun deep c d h1 h2 h3 => by
    simp only [mItsB, rIs, cIs, dIs]
    exact ⟨fun _ _ _ => rfl, fun h => absurd ⟨trivial, h1, h2⟩ h⟩
  | x :: xs, hx => fun deep c d h1 h2 h3 => by
    obtain ⟨m1, m2⟩ := hx x (by simp) deep c d h1 h2 h3
    have ih := meas_items (xs := xs) fun y hy => hx y (by simp [hy])
    simp only [mItsB, rIs, cIs, dIs]
    by_cases hc : rI x = true ∧ deep + dI x ≤ 16 ∧ c + cI x ≤ 16384
    · obtain ⟨p1, p2, p3⟩ := hc
      rw [m1 p1 p2 p3, Option.bind_some, if_pos rfl, p1, Bool.true_and]
      obtain ⟨n1, n2⟩ := ih deep (c + cI x) (up d deep (dI x)) h1 p3 (up_le h3 p2)
      refine ⟨fun hr g1 g2 => ?_, fun hn => n2 fun ⟨q1, q2, q3⟩ => hn ⟨q1, by omega, by omega⟩⟩
      have := n1 hr (by omega) (by omega)
      rw [up_up, Nat.add_assoc] at this
      exact this
    · obtain ⟨z, hz⟩ := m2 hc
      rw [hz, Option.bind_some, if_neg (by simp)]
      refine ⟨fun hr g1 g2 => absurd ⟨?_, by omega, by omega⟩ hc, fun _ => ⟨_, rfl⟩⟩
      simp only [Bool.and_eq_true] at hr; exact hr.1
theorem simple_d {a : Arr} (hs : simpleB a = true) (hr : rIs a.items = true) : dIs a.items = 0 ∧ cIs a.items = 0 := by
  unfold simpleB at hs
  rw [Bool.and_eq_true] at hs
  match hi : a.items, hs.2 with
  | [x], h2 =>
    rw [hi] at hr
    simp only [rIs, Bool.and_true] at hr
    rw [rI_eq] at hr
    have h3 : x.kind ≠ 3 := by simpa using h2
    have hb : x.box = [] := by
      by_cases k1 : x.kind = 1
      · rw [if_pos k1] at hr; simp only [Bool.and_eq_true, decide_eq_true_eq] at hr; exact List.length_eq_zero_iff.1 hr.2.2
      rw [if_neg k1] at hr
      by_cases k2 : x.kind = 2
      · rw [if_pos k2] at hr; simp only [Bool.and_eq_true, decide_eq_true_eq] at hr; exact List.length_eq_zero_iff.1 hr.2.2
      rw [if_neg k2, if_neg h3] at hr; cases hr
    simp [dIs, cIs, dI_eq, cI_eq, hb, dBs, cBs]
theorem meas_arr {rc : Arr → Int → Int → Int → Option M3} {a : Arr} (ha : okAr a) (hx : ∀ x ∈ a.items, Meas (mItB rc x) (rI x) (cI x) (dI x)) : Meas (mArB rc a) (rA a) (cA a) (dA a) := by
  have oa := (okAr_iff a).1 ha
  intro deep c d h1 h2 h3
  have hl := szP_le a.shape
  unfold mArB
  rw [Size_eq oa.2.1, Option.bind_some, rA_eq, cA_eq, dA_eq]
  by_cases e1 : (szP a.shape).2 = 0
  rotate_left
  · rw [if_neg e1]; simp only [e1, decide_false, Bool.false_and]
    exact ⟨fun h => by simp at h, fun _ => ⟨_, rfl⟩⟩
  rw [if_pos e1]
  by_cases e2 : (a.items.length : Int) = if (szP a.shape).1 < 1 then 1 else (szP a.shape).1
  rotate_left
  · rw [if_neg e2]; simp only [e1, e2, decide_true, decide_false, Bool.true_and, Bool.false_and]
    exact ⟨fun h => by simp at h, fun _ => ⟨_, rfl⟩⟩
  rw [if_pos e2]
  have hlen : a.items.length ≤ 4096 := by
    split at e2 <;> omega
  simp only [e1, decide_true, Bool.true_and]
  rw [decide_eq_true e2, Bool.true_and]
  have hw : w64 ((c : Int) + ((a.items.length : Nat) : Int)) = ((c + a.items.length : Nat) : Int) := by rw [w64_eq (by omega) (by omega)]; omega
  rw [hw]
  by_cases e3 : (16384 : Int) < ((c + a.items.length : Nat) : Int)
  · rw [if_pos e3]
    exact ⟨fun _ _ _ => by omega, fun _ => ⟨_, rfl⟩⟩
  rw [if_neg e3, isSimple_eq, Option.bind_some]
  have hi := meas_items hx
  by_cases hs : simpleB a = true
  · simp only [if_pos hs]
    rw [if_pos (show (deep : Int) ≤ 16 by omega)]
    obtain ⟨m1, m2⟩ := hi deep (c + a.items.length) d h1 (by omega) h3
    refine ⟨fun hr g1 g2 => ?_, fun hn => m2 fun ⟨q1, q2, q3⟩ => hn ⟨q1, by omega, by omega⟩⟩
    obtain ⟨s1, s2⟩ := simple_d hs hr
    have := m1 hr (by omega) (by omega)
    rw [s1, Nat.add_assoc] at this
    exact this
  simp only [if_neg hs]
  have hw2 : w64 ((deep : Int) + 1) = ((deep + 1 : Nat) : Int) := by rw [w64_eq (by omega) (by omega)]; omega
  rw [hw2]
  have hmx : (if (d : Int) < ((deep + 1 : Nat) : Int) then ((deep + 1 : Nat) : Int) else (d : Int)) = ((max d (deep + 1) : Nat) : Int) := by split <;> omega
  rw [hmx]
  by_cases e4 : ((deep + 1 : Nat) : Int) ≤ 16
  rotate_left
  · rw [if_neg e4]
    exact ⟨fun _ _ _ => by omega, fun _ => ⟨_, rfl⟩⟩
  rw [if_pos e4]
  obtain ⟨m1, m2⟩ := hi (deep + 1) (c + a.items.length) (max d (deep + 1)) (by omega) (by omega) (by omega)
  refine ⟨fun hr g1 g2 => ?_, fun hn => m2 fun ⟨q1, q2, q3⟩ => hn ⟨q1, by omega, by omega⟩⟩
  have := m1 hr (by omega) (by omega)
  have hup : up (max d (deep + 1)) (deep + 1) (dIs a.items) = up d deep (1 + dIs a.items) := by unfold up; split <;> split <;> omega
  rw [hup, Nat.add_assoc] at this
  exact this
theorem mAr_r_meas : ∀ (k : Nat) {a : Arr}, a.size < k → okAr a → Meas (mAr_r k a) (rA a) (cA a) (dA a)
  | 0, a, h, _ => by omega
  | k + 1, a, h, ha => by
    have oa := (okAr_iff a).1 ha
    have := meas_arr (rc := mAr_r k) ha fun x hx => meas_item (oa.2.2.2 x hx) fun b hb => mAr_r_meas k (by have := size_in hx; have := size_box hb; omega) (((okI_iff x).1 (oa.2.2.2 x hx)).2.2.2.2 b hb)
    intro deep c d h1 h2 h3
    simp only [mAr_r]
    rw [if_pos (by omega)]
    exact this deep c d h1 h2 h3
theorem mAr_meas {a : Arr} (ha : okAr a) : Meas (mAr a) (rA a) (cA a) (dA a) := mAr_r_meas _ (Nat.lt_succ_self _) ha
theorem mIt_meas {x : Itm} (hx : okI x) : Meas (mIt x) (rI x) (cI x) (dI x) := meas_item hx fun a ha => mAr_meas (((okI_iff x).1 hx).2.2.2.2 a ha)

/-- An array is right. -/
def RightA (a : Arr) : Prop := rA a = true ∧ dA a ≤ 16 ∧ cA a ≤ 16384
def RightI (x : Itm) : Prop := rI x = true ∧ dI x ≤ 16 ∧ cI x ≤ 16384
instance (a : Arr) : Decidable (RightA a) := by unfold RightA; infer_instance
instance (x : Itm) : Decidable (RightI x) := by unfold RightI; infer_instance
theorem measured_eq {a : Arr} (ha : okAr a) : arMeasured a = some (if RightA a then (((cA a : Nat) : Int), ((dA a : Nat) : Int)) else (0, 0), decide (RightA a)) := by
  obtain ⟨m1, m2⟩ := mAr_meas ha 0 0 0 (by omega) (by omega) (by omega)
  unfold arMeasured
  by_cases h : RightA a
  · have := m1 h.1 (by have := h.2.1; omega) (by have := h.2.2; omega)
    rw [show ((0 : Nat) : Int) = 0 from rfl] at this
    rw [this, if_pos h, decide_eq_true h]
    have hu : up 0 0 (dA a) = dA a := by unfold up; split <;> omega
    simp [hu]
  · obtain ⟨z, hz⟩ := m2 fun ⟨q1, q2, q3⟩ => h ⟨q1, by omega, by omega⟩
    rw [show ((0 : Nat) : Int) = 0 from rfl] at hz
    rw [hz, if_neg h, decide_eq_false h]; rfl
theorem Right_eq {a : Arr} (ha : okAr a) : array_Right a = some (decide (RightA a)) := by unfold array_Right; rw [measured_eq ha, Option.bind_some]
theorem Depth_eq {a : Arr} (ha : okAr a) : array_Depth a = some (if RightA a then ((dA a : Nat) : Int) else 0) := by
  unfold array_Depth; rw [measured_eq ha, Option.bind_some]; split <;> rfl
theorem Cells_eq {a : Arr} (ha : okAr a) : array_Cells a = some (if RightA a then ((cA a : Nat) : Int) else 0) := by
  unfold array_Cells; rw [measured_eq ha, Option.bind_some]; split <;> rfl
theorem rightItem_eq {x : Itm} (hx : okI x) : arRightItem x = some (decide (RightI x)) := by
  obtain ⟨m1, m2⟩ := mIt_meas hx 0 0 0 (by omega) (by omega) (by omega)
  unfold arRightItem
  by_cases h : RightI x
  · have := m1 h.1 (by have := h.2.1; omega) (by have := h.2.2; omega)
    rw [show ((0 : Nat) : Int) = 0 from rfl] at this
    rw [this, decide_eq_true h]; rfl
  · obtain ⟨z, hz⟩ := m2 fun ⟨q1, q2, q3⟩ => h ⟨q1, by omega, by omega⟩
    rw [show ((0 : Nat) : Int) = 0 from rfl] at hz
    rw [hz, decide_eq_false h]; rfl
end Go.FL
/-
  Plain laws, rat 3: sizes, negatives, rounding, signs, comparisons, sums of many.
-/
namespace Go.FL
open Go Go.Proofs

theorem equalL_eq {a b : List Nat} (ha : okL 1048576 a = true) (hb : okL 35184372087808 b = true) : sEqualL a b = some (decide (a = b)) := if_pos (by rw [ha, hb]; rfl)
theorem isInt_q {p : Rat} (hp : fits p) : rat_IsInt (ofQ p) = some (decide (p.den = 1)) := by
  unfold rat_IsInt
  rw [ratRight_eq (ofQ_okRB hp), ofQ_right hp, Option.bind_some, if_pos rfl, ratOne_eq, Option.bind_some]
  rw [show sEqualL (ofQ p).2.2 [1] = some (decide (digs p.den = [1])) from equalL_eq (small_ok hp.2 (by decide)) (by rfl), Option.bind_some, Option.bind_some]
  congr 1
  exact decide_eq_decide.2 digs_one_iff
end Go.FL
/-
  Plain laws, rat 4: comparisons; sums and products of many.
-/
namespace Go.FL
open Go Go.Proofs

end Go.FL
/-
  Plain laws, rat 5: the reference's numbers.
-/
namespace Go.FL
open Go Go.Proofs

theorem ref_ofInt_q {z : Int} (h1 : -9223372036854775808 ≤ z) (h2 : z ≤ 9223372036854775807) : ref02_OfInt z = some (ofQ z) := by
  unfold ref02_OfInt
  have hof : ∀ n : Nat, n < 18446744073709551616 → r1Of (n : Int) = some (digs n) := fun n hn => by
    have : r1Of (n : Int) = some (digs ((n : Int).toNat)) := if_pos (by omega)
    rw [this, Int.toNat_natCast]
  have e : ofQ (z : Rat) = (decide (z < 0), digs z.natAbs, [1]) := by
    show (decide (z < 0), digs z.natAbs, digs 1) = _
    rw [one_digs]
  by_cases h : z < 0
  · rw [if_pos h, u64_neg h h1, hof _ (by omega), ref2One_eq, e]; rfl
  · rw [if_neg h, u64_nn (by omega) h2, hof _ (by omega), ref2One_eq, e]; rfl
end Go.FL
/-
  A FUNCTIONAL LOGIC, 45: a struct of two cells, of which one is a slice of the call's own.
-/
namespace Go.FL
open Go Go.RowKit

section
variable {P : Program} {C : Cx} {X : Snap} {o : Oper} {ops : Array Oper} {Q : Exit → Env → Heap → Prop} {env env' : Env} {H H' : Heap} {a : Act} {w w' : World} {I I' : Nat → Prop} {μ μ' : List Nat} {O O' : Nat → Option Loc}
  {K : Env → Heap → Prop} {k : Nat} {l : List Oper}

theorem setRow2 {blk : Nat} {u0 u1 v0 v1 : Value} {e : TypeId} (h : w.heap[blk]? = some (.cells #[u0, u1] e (0, 0))) : w.setRow blk #[v0, v1] = (w.setCell ⟨blk, 0, none⟩ v0).setCell ⟨blk, 1, none⟩ v1 := by
  obtain ⟨hlt, hv⟩ := Array.getElem?_eq_some_iff.1 h
  have e1 : w.heap.modify blk (fun | .cells _ elem frozen => .cells #[v0, v1] elem frozen | o => o) = (w.heap.modify blk (fun | .cells c elem frozen => .cells (c.setIfInBounds 0 v0) elem frozen | o => o)).modify blk (fun | .cells c elem frozen => .cells (c.setIfInBounds 1 v1) elem frozen | o => o) := by
    apply Array.ext
    · simp
    · intro i h1 h2
      simp only [Array.getElem_modify]
      by_cases hi : blk = i
      · subst hi; simp only [if_true, hv]; simp
      · simp only [if_neg hi]
  unfold World.setRow World.setCell
  simp only [Option.isSome_none, Bool.false_eq_true, if_false]
  exact congrArg (fun x => ({ w with heap := x } : World)) e1

/-- A struct whose only part is a slice of the call's own. -/
theorem bdo {ty s t e : Nat} {parts : Array (Nat × Operand)} {places : List (Nat × Nat)} {z : Value} {xs : List DV} (hp : structT P ty = some places) (hz : (P.info? ty).bind (·.zero) = some z) (hzr : z = .agg #[.slice none 0 0, .slice none 0 0]) (h : RL P C ops Q (k + 1) l ((t, .ag [.own e xs, .nl]) :: (s, .un) :: env) H)
    (hpl : places = [(0, 1), (1, 1)] := by rfl) (hg : grd ops env o true = true := by rfl) (ho : o.op = .build ty parts := by rfl) (hpa : parts = #[(0, .tmp s)] := by rfl) (hv : get env s = .own e xs := by rfl) (hd : o.dst = some t := by rfl)
    (hf : isOwn (get env t) = false := by rfl) (hr : refsTo s env = false := by rfl) (ht : okT C.nt t := by rfl) : RL P C ops Q k (o :: l) env H := by
  have hst := ne_of_own hv hf
  subst hpl hzr
  refine .go hg (.val (t := t) (av := .ag [.own e xs, .nl]) (env' := put env s .un) (H' := H) (by simp [ho]) hd ht (fun X a w I μ O _ _ _ hs => ?_) ?_)
  · obtain ⟨k1, bs, k2, k3, k4⟩ := hs.take s (by rw [hv]; rfl)
    rw [hv] at k2
    have hb : P.built ty [(0, a.tmps.getD s undef)] = some #[a.tmps.getD s undef, .slice none 0 0] := by
      unfold structT at hp
      unfold Program.built
      cases hi : P.info? ty with
      | none => rw [hi] at hz; cases hz
      | some it =>
        rw [hi] at hz
        simp only [Option.bind_some] at hz
        split at hp
        · rename_i fields hu
          simp only [hu, hz, hp]
          have hone : ∃ A n c, a.tmps.getD s undef = .slice A n c := by
            generalize a.tmps.getD s undef = u at k2
            cases k2 with
            | own _ _ _ vs hsz ho' hr' =>
              rcases ho' with ⟨A, h1, _⟩ | ⟨_, g, cap, h1, _⟩ <;> exact ⟨_, _, _, h1⟩
          obtain ⟨A, n, c, hu3⟩ := hone
          rw [hu3]
          simp [Instr.fill, Value.cells]
        · cases hp
    refine ⟨.agg #[a.tmps.getD s undef, .slice none 0 0], w, I, μ, _, ?_, k1, bs, ?_, k3, k4⟩
    · simp only [execOp, ho, hpa, Sem.run_bind]
      have := run_build (P := P) w ty #[(0, a.tmps.getD s undef)] #[a.tmps.getD s undef, .slice none 0 0] (by simpa using hb)
      simp only [List.map_toArray, List.map_cons, List.map_nil, Act.eval]
      rw [this]
      simp only [Result.andThen_ok, Sem.run_pure]
    · have := ARep.ag (ARepAll.cons k2 (ARepAll.cons (.nl (P := P) (w := w) (I := I) (μ := μ)) .nil))
      simpa using this
  · refine RL.gh (Gh.same fun q => ?_) h
    have h1 : isOwn (get (put env s .un) t) = false := by rw [put_noRefs hr]; simp [get, hst, hf]
    rw [put_cons h1]
    simp only [get]
    split
    · rfl
    · rw [put_noRefs hr]; rfl
/-- A struct of two cells is stored into an object. -/
theorem st2 {x : Operand} {r ty id : Nat} {c0 c1 a0 a1 : AV} (hH : H[id]? = some (.box [c0, c1])) (h : RL P C ops Q (k + 1) l ((r, .un) :: env) (H.set id (.box [a0, a1]))) (hsz : szOf P ty = 2) (hg : grd ops env o true = true := by rfl)
    (ho : o.op = .store ty x (.tmp r) := by rfl) (hv : lk env x = .bp id 0 := by rfl) (hy : get env r = .ag [a0, a1] := by rfl) (n0 : isOwn c0 = false := by rfl) (n1 : isOwn c1 = false := by rfl) (m0 : one a0 = true := by rfl) (m1 : one a1 = true := by rfl) (hd : o.dst = none := by rfl) (h0 : C.n0 = 0 := by rfl) : RL P C ops Q k (o :: l) env H := by
  obtain ⟨h1, h2⟩ := lk_copy hv (by simp)
  have hlt : id < H.length := (List.getElem?_eq_some_iff.1 hH).1
  refine .go hg (.done (env' := put env r .un) (H' := H.set id (.box [a0, a1])) (by simp [ho]) hd (fun X a w I μ O _ g2 _ hs => ?_) ?_)
  · obtain ⟨blk, hm, he⟩ := hs.bp h1 h2
    obtain ⟨k1, bs, k2, k3, k4⟩ := hs.take r (by rw [hy]; rfl)
    rw [hy] at k2
    generalize hev : a.tmps.getD r undef = u at k2
    cases k2 with
    | @ag _ vs _ k2 =>
      cases k2 with
      | @cons _ v0 _ _ b0 b1' q0 k2 =>
        cases k2 with
        | @cons _ v1 _ _ b1 b2 q1 k2 =>
          cases k2
          rw [List.append_nil] at k3 k4
          obtain ⟨d0, d1, d2⟩ := List.nodup_append.1 k3
          obtain ⟨s1, ⟨y1, w1⟩, f1⟩ := k1.storeC (off := 0) hH rfl hm (by omega) q0 d0 fun b hb => k4 b (by simp [hb])
          rw [n0] at s1
          have e1 : setC H id 0 a0 = H.set id (.box [a0, c1]) := by simp [setC, hH]
          rw [e1] at s1
          have hH1 : (H.set id (.box [a0, c1]))[id]? = some (.box [a0, c1]) := List.getElem?_set_self hlt
          have q1' : ARep P (w.setCell ⟨blk, 0, none⟩ v0) I μ a1 v1 b1 := by
            obtain ⟨blk', bs', g1, ⟨cells, et, g3, g4⟩, g5, _⟩ := k1.heap id _ hH
            rw [hm] at g1; cases g1
            have hOb := (g5 (by omega)).2 blk (by simp)
            refine q1.keep (fun _ h => h) (fun b hi => heap_setCell_other w _ b v0 fun e => ?_) (fun _ _ h => h) fun b hb => heap_setCell_other w _ b v0 fun e => ?_
            · have e' : b = blk := e
              subst e'; exact (k1.own _ _ hOb).2 hi
            · have e' : b = blk := e
              subst e'
              have h7 : (O b).map (toR r) = some .r := k4 b (by simp [hb])
              have h8 : (O b).map (toR r) = some (.o id) := hOb
              rw [h7] at h8; cases h8
          obtain ⟨s2, ⟨y2, w2⟩, f2⟩ := s1.storeC (off := 1) hH1 rfl hm (by omega) q1' d1 fun b hb => by
            show (if b ∈ b0 then _ else _) = _
            rw [if_neg fun hm => d2 b hm b hb rfl]; exact k4 b (by simp [hb])
          rw [n1] at s2
          have e2 : setC (H.set id (.box [a0, c1])) id 1 a1 = H.set id (.box [a0, a1]) := by simp [setC, hH1]
          rw [e2] at s2
          refine ⟨_, I, μ, _, ?_, s2⟩
          obtain ⟨blk', bs', g1, ⟨cells, et, g3, g4⟩, g5, _⟩ := k1.heap id _ hH
          rw [hm] at g1; cases g1
          have hcl : cells.toList.length = 2 := g4.length.symm
          obtain ⟨u0, u1, hcc⟩ : ∃ u0 u1, cells = #[u0, u1] := by
            obtain ⟨l⟩ := cells
            match l, hcl with
            | [x, y], _ => exact ⟨x, y, rfl⟩
          rw [hcc] at g3
          have hone0 := one_scalar q0 m0
          have hone1 := one_scalar q1 m1
          obtain ⟨i, i1, i2⟩ := szOf_info (P := P) (t := ty) (by omega)
          have hsi : (P.info? ty).map (·.size) = some (#[v0, v1] : Array Value).size := by rw [i1]; simp; omega
          have hrun := run_storeVar_row (P := P) w blk et ty #[u0, u1] #[v0, v1] g3 hsi rfl (by simp [hone0, hone1])
          have hevr : a.eval (.tmp r) = .agg #[v0, v1] := by show a.tmps.getD r undef = _; rw [hev]
          simp only [execOp, ho, he, hevr, Instr.storeAt, Instr.sureAddr, Sem.run_bind, Sem.run_pure, Result.andThen_ok, hrun]
          rw [setRow2 g3]
  · refine RL.gh (Gh.same fun q => ?_) h
    rw [put_cons (by rw [hy]; rfl)]
section
variable {nt : Nat × Nat} {J : JT} {ags : List Value} {QJ : Exit → Env → Heap → Nat → Prop} {n : Nat}
end
end
end Go.FL
/-
  array.all, ToInts.
-/
namespace Go.FL
open Go Go.Proofs

section
variable {S : Type}
/-- Whether the function says so of each item; what is then. -/
def allS (step : Itm → S → Option (Bool × S)) : List Itm → S → Option (Bool × S)
  | [], s => some (true, s)
  | x :: xs, s => (step x s).bind fun r => if r.1 = true then allS step xs r.2 else some (false, r.2)
def notS (step : Itm → S → Option (Bool × S)) (x : Itm) (s : S) : Option (Bool × S) := (step x s).map fun r => (!r.1, r.2)
theorem idx_all {step : Itm → S → Option (Bool × S)} : ∀ {xs : List Itm} {s : S} {z : Bool × S} {i : Int}, 0 ≤ i → allS step xs s = some z → ∃ n, idxS (notS step) xs s i = some (n, z.2) ∧ (!decide (0 ≤ n)) = z.1
  | [], s, z, i, _, h => by cases h; exact ⟨-1, rfl, rfl⟩
  | x :: xs, s, z, i, hi, h => by
    rw [allS] at h
    obtain ⟨y, hy, h⟩ := bnd h
    have hs : notS step x s = some (!y.1, y.2) := by simp [notS, hy]
    by_cases hc : y.1 = true
    · rw [if_pos hc] at h
      obtain ⟨n, h1, h2⟩ := idx_all (i := i + 1) (by omega) h
      refine ⟨n, ?_, h2⟩
      rw [idxS, hs, Option.bind_some, if_neg (by simp [hc])]; exact h1
    · rw [if_neg hc] at h
      cases h
      refine ⟨i, ?_, by simp [hi]⟩
      rw [idxS, hs, Option.bind_some, if_pos (by simp [hc])]
end
theorem all1_R {S : Type} {step : Itm → S → Option (Bool × S)} {obj : S → HO} {f : FuncId} {caps : List AV} {id : Nat} (hcall : ∀ args w, (callFunc f args).run Try.prog w = .ok (.enter f args) w) (hnc : noOwnL caps = true)
    (hstep : ∀ (x : Itm) s r H, H[id]? = some (obj s) → step x s = some r → FnR Try.prog f (.d (dvI x) :: caps) H fun v H' => v = .d (.b r.1) ∧ Upd H id (obj r.2) H')
    {x : Itm} {s : S} {r : Bool × S} {H : Heap} {n3 : Nat} (hs : H[id]? = some (obj s)) (h3 : H[n3]? = some (.box [.fn f [] caps])) (h : notS step x s = some r) :
    FnR Try.prog 99 [.d (dvI x), .bp n3 0] H fun v H' => v = .d (.b r.1) ∧ Upd H id (obj r.2) H' := by
  simp only [notS, Option.map_eq_some_iff] at h
  obtain ⟨y, hy, rfl⟩ := h
  have hfn : noOwn (.fn f [] caps) = true := by simp [noOwn, noOwnL, hnc]
  refine FnR.of (rs := [.tmp 3]) 8 Try.func99 rfl rfl rfl (by simp) ?_
  refine .seq ?_
  refine .region ?_
  refine vk (vbx) ?_
  refine asd ?_
  refine rn ?_
  refine .seq ?_
  refine .region ?_
  refine vk (vldbA (cs := [.fn f [] caps]) (c := .fn f [] caps) h3 rfl (by kernel_rfl) (hn := hfn)) ?_
  refine vk (vlda gA_Itm gS_Itm) ?_
  refine clRv (avs := [.d (dvI x)]) (hstep _ _ _ _ hs hy) hcall (fun v H' hp => ?_) (hnc := hnc)
  obtain ⟨rfl, hp⟩ := hp
  refine vk (vnt) ?_
  refine asd ?_
  refine rn ?_
  refine .ret ?_
  exact ⟨_, ⟨rfl, rfl⟩, rfl, hp⟩
def allP {S : Type} (step : Itm → S → Option (Bool × S)) (a : Arr) (s : S) : Option (Bool × S) :=
  (array_Right a).bind fun x1 => if x1 = true then (if ((List.length a.shape : Nat) : Int) ≤ 1 then (array_Items a).bind fun l => if l.length ≤ 9223372036854775806 then allS step l s else none else some (false, s)) else some (false, s)
set_option maxRecDepth 10000 in
theorem all_R {S : Type} {step : Itm → S → Option (Bool × S)} {obj : S → HO} {f : FuncId} {caps : List AV} {id : Nat} (hcall : ∀ args w, (callFunc f args).run Try.prog w = .ok (.enter f args) w) (hnc : noOwnL caps = true)
    (hstep : ∀ (x : Itm) s r H, H[id]? = some (obj s) → step x s = some r → FnR Try.prog f (.d (dvI x) :: caps) H fun v H' => v = .d (.b r.1) ∧ Upd H id (obj r.2) H')
    {a : Arr} {s : S} {r : Bool × S} {H : Heap} (hs : H[id]? = some (obj s)) (h : allP step a s = some r) :
    FnR Try.prog 66 [.d (dvA a), .fn f [] caps] H fun v H' => v = .d (.b r.1) ∧ Upd H id (obj r.2) H' := by
  unfold allP at h
  have hfn : noOwn (.fn f [] caps) = true := by simp [noOwn, noOwnL, hnc]
  have hid : id < H.length := (List.getElem?_eq_some_iff.1 hs).1
  refine FnR.of (rs := [.tmp 4]) 20 Try.func66 rfl rfl rfl (by simp) ?_
  refine .seq ?_
  refine .region ?_
  refine vk (vbx) ?_
  refine bxA (c := .fn f [] caps) ?_ (hn := hfn)
  refine asd ?_
  have f0 : Upd H id (obj s) (H ++ [.box [.fn f [] caps]]) := ⟨by rw [List.getElem?_append_left hid]; exact hs, by simp, fun j h1 h2 => by rw [List.getElem?_append_left h2]⟩
  have f3 : (H ++ [HO.box [.fn f [] caps]])[H.length]? = some (.box [.fn f [] caps]) := by simp
  have g3 : H.length ≠ id := by omega
  generalize H ++ [HO.box [.fn f [] caps]] = H2 at f0 f3 ⊢
  obtain ⟨n3, hn3⟩ : ∃ n3, n3 = H.length := ⟨_, rfl⟩
  rw [← hn3] at f3 g3 ⊢
  refine rn ?_
  refine .gh (Gh.keep [2, 3] rfl) ?_
  refine .seq ?_
  refine .region ?_
  refine vk (vlda gA_Arr gS_Arr) ?_
  obtain ⟨x1, hx1, h⟩ := bnd h
  refine vk (vcl0 (array_Right_ok hx1) Try.call12) ?_
  by_cases hc : x1 = true
  rotate_left
  · rw [if_neg hc] at h
    cases h
    refine vk (VOK.lit (vmvd) (bf hc)) ?_
    refine gf ?_
    refine gf ?_
    refine gf ?_
    refine gf ?_
    refine vk (vpkd) ?_
    refine vk (vmvd) ?_
    refine gf ?_
    refine gf ?_
    refine gf ?_
    refine gf ?_
    refine gf ?_
    refine vk (vpkd) ?_
    refine asd ?_
    refine rn ?_
    refine .ret ?_
    exact ⟨_, ⟨rfl, rfl⟩, rfl, f0⟩
  rw [if_pos hc] at h
  refine vk (VOK.lit (vmvd) hc) ?_
  refine vk (vfa gF_Arr_0) ?_
  refine vk (vldp ga_Is) ?_
  refine vk (vlnE (Is_length _) (Is_sz _) gu_Is) ?_
  refine vk (vbi) ?_
  refine vk (vpkd) ?_
  by_cases hc : ((List.length a.shape : Nat) : Int) ≤ 1
  rotate_left
  · rw [if_neg hc] at h
    cases h
    refine vk (VOK.lit (vmvd) (decide_eq_false hc)) ?_
    refine gf ?_
    refine gf ?_
    refine gf ?_
    refine gf ?_
    refine gf ?_
    refine vk (vpkd) ?_
    refine asd ?_
    refine rn ?_
    refine .ret ?_
    exact ⟨_, ⟨rfl, rfl⟩, rfl, f0⟩
  rw [if_pos hc] at h
  refine vk (VOK.lit (vmvd) (decide_eq_true hc)) ?_
  refine vk (vlda gA_Arr gS_Arr) ?_
  obtain ⟨l, hx2, h⟩ := bnd h
  obtain ⟨hl, h⟩ := ite_n h
  refine vk (vcl0 (array_Items_ok hx2) Try.call53) ?_
  refine mkfA (avs := [.bp n3 0]) ?_
  obtain ⟨n, h1, h2⟩ := idx_all (Int.le_refl 0) h
  have step' := ContainsFuncI_R (S := S) (step := notS step) (st := fun s H' => Upd H id (obj s) H' ∧ H'[n3]? = some (.box [.fn f [] caps])) (caps := [.bp n3 0]) Try.call99 rfl
    (fun x s y H' hs hy => by
      obtain ⟨hs0, hs3⟩ := hs
      refine (all1_R hcall hnc hstep hs0.1 hs3 hy).mono fun v H'' hp => ⟨hp.1, hs0.trans hp.2, ?_⟩
      rw [hp.2.2.2 n3 g3 (List.getElem?_eq_some_iff.1 hs3).1]; exact hs3)
    hl h1 (H := H2) ⟨f0, f3⟩
  refine clR (avs := [.d (.sl (Its l)), .fn 99 [] [.bp n3 0]]) step' Try.call55 (fun v H' hp => ?_)
  obtain ⟨rfl, hp⟩ := hp
  refine vk (vnt) ?_
  rw [h2]
  refine vk (vpkd) ?_
  refine asd ?_
  refine rn ?_
  refine .ret ?_
  exact ⟨_, ⟨rfl, rfl⟩, rfl, hp.1⟩

abbrev objI (s : List Int) : HO := .box [.own 3 (Is s)]
def toIntS (x : Itm) (s : List Int) : Option (Bool × List Int) := (ratToInt x.num).bind fun y => (ap? 17592186044416 s [y.1]).bind fun o => some (y.2 && decide (x.kind = 1), o)
theorem ToInts1_R (id : Nat) (x : Itm) (s : List Int) (r : Bool × List Int) (H : Heap) (hH : H[id]? = some (objI s)) (h : toIntS x s = some r) :
    FnR Try.prog 67 (.d (dvI x) :: [.bp id 0]) H fun v H' => v = .d (.b r.1) ∧ Upd H id (objI r.2) H' := by
  unfold toIntS at h
  obtain ⟨y, hy, h⟩ := bnd h
  obtain ⟨z, hz, h⟩ := bnd h
  have hid : id < H.length := (List.getElem?_eq_some_iff.1 hH).1
  refine FnR.of (rs := [.tmp 3]) 22 Try.func67 rfl rfl rfl (by simp) ?_
  refine .seq ?_
  refine .region ?_
  refine vk (vbx) ?_
  refine asd ?_
  refine rn ?_
  refine .seq ?_
  refine .region ?_
  refine vk (vfa gF_Itm_1) ?_
  refine vk (vlda gA_R gS_R) ?_
  refine vk (VOK.tupd (vs := [.i .i64 y.1, .b y.2]) (vcl0 (ratToInt_ok hy) Try.call68)) ?_
  refine vk (vmvd) ?_
  refine vk (vex) ?_
  refine vk (vex) ?_
  refine asd ?_
  refine asd ?_
  refine rn ?_
  refine .gh (Gh.keep [1, 2, 4, 5] rfl) ?_
  refine .seq ?_
  refine .region ?_
  refine ldbo (cs := [.own 3 (Is s)]) hH rfl ?_ ga_Is
  refine vk (vmvd) ?_
  refine vk (vbsl (Is_flat [y.1]) ge_Is).deep ?_
  have hset : ∀ c, (H.set id (.box [c]))[id]? = some (.box [c]) := fun c => List.getElem?_set_self hid
  refine apc' Is_app hz hH rfl gB_Is ?_ Is_sz1 Is_length ge_Is (hnc := by simp [noCell, get, keepE, argsE])
  refine RL.gh (Gh.keep [1, 2, 4, 5, 15] rfl) ?_
  refine stbo (cs := [.un]) (c := .un) (hset _) rfl ?_ gz_Is
  refine rn ?_
  have hfin : (((H.set id (.box [.un])).set id (.box [.own 3 (Is z)])) : Heap) = H.set id (objI z) := by simp
  change AW _ _ _ _ _ ((H.set id (.box [.un])).set id (.box [.own 3 (Is z)]))
  rw [hfin]
  have hup : Upd H id (objI z) (H.set id (objI z)) := (Upd.same hH).set_id
  refine .gh (Gh.keep [2, 4, 5] rfl) ?_
  refine .seq ?_
  refine .region ?_
  refine vk (vmvd) ?_
  by_cases hc : y.2 = true
  · refine vk (VOK.lit (vmvd) hc) ?_
    refine vk (vfa gF_Itm_0) ?_
    refine vk (vldp ga_ItemKind) ?_
    refine vk (vbi) ?_
    refine vk (vpkd) ?_
    refine asd ?_
    refine rn ?_
    refine .ret ?_
    cases h
    exact ⟨_, ⟨rfl, rfl⟩, by rw [hc]; rfl, hup⟩
  · refine vk (VOK.lit (vmvd) (bf hc)) ?_
    refine gf ?_
    refine gf ?_
    refine gf ?_
    refine vk (vpkd) ?_
    refine asd ?_
    refine rn ?_
    refine .ret ?_
    cases h
    exact ⟨_, ⟨rfl, rfl⟩, by rw [bf hc]; rfl, hup⟩
def arToInts (a : Arr) : Option (List Int × Bool) := (allP toIntS a []).map fun r => if r.1 = true then (r.2, true) else ([], false)
theorem gz0_Is' : 0 < szOf Try.prog 3 := by rw [gz_int]; decide
theorem arToInts_ok {a : Arr} {r : List Int × Bool} (h : arToInts a = some r) : Fn Try.prog 20 [dvA a] (.tup [.d (.sl (Is r.1)), .d (.b r.2)]) := by
  simp only [arToInts, Option.map_eq_some_iff] at h
  obtain ⟨z, hz, rfl⟩ := h
  refine Fn.of (rs := [.tmp 2, .tmp 3]) (nt := 12) Try.func20 rfl rfl rfl (by simp) rfl ?_
  refine .seq ?_
  refine .region ?_
  refine vk (vbx) ?_
  refine asn ?_
  refine asd ?_
  refine rn ?_
  refine .seq ?_
  refine .region ?_
  refine al ?_ (zero_of gI_Is) (fun w I μ => gZA_Is w I μ)
  refine rn ?_
  refine .gh (Gh.nlOwnC (id := 0) (off := 0) 3 gz0_Is') ?_
  refine .seq ?_
  refine .region ?_
  refine vk (vlda gA_Arr gS_Arr) ?_
  refine mkfA (avs := [.bp 0 0]) ?_
  refine clR (avs := [.d (dvA a), .fn 67 [] [.bp 0 0]]) (all_R (obj := objI) (id := 0) (caps := [.bp 0 0]) (s := []) Try.call67 rfl (fun x s r H hH hs => ToInts1_R 0 x s r H hH hs) rfl hz) Try.call66 (fun v H' hp => ?_)
  obtain ⟨rfl, hp⟩ := hp
  refine asd ?_
  refine rn ?_
  refine .gh (Gh.keep [2, 3, 4, 5] rfl) ?_
  refine .seq ?_
  refine .seq ?_
  refine .region ?_
  refine vk (vmvd) ?_
  refine vk (vnt) ?_
  refine rn ?_
  by_cases hc : z.1 = true
  · rw [if_pos hc]
    refine cnf (ntf hc) ?_
    refine .skip ?_
    show AW _ _ _ _ _ _
    refine .seq ?_
    refine .region ?_
    refine ldbo (cs := [.own 3 (Is z.2)]) hp.1 rfl ?_ ga_Is
    refine fz (p := .c 0 0) (e := 3) (xs := Is z.2) ?_ (hp := by simp [plAV, hp.1])
    refine asd ?_
    refine asd ?_
    refine rn ?_
    refine .ret ?_
    refine ⟨by decide, ?_, rfl, rfl⟩
    show AV.tup [.d (.sl (Is z.2)), .d (.b true)] = AV.tup [.d (.sl (((Is z.2).drop 0).take (Is z.2).length)), .d (.b true)]
    rw [List.drop_zero, List.take_length]
  · rw [if_neg hc]
    refine cnt (ntt (bf hc)) ?_
    refine .seq ?_
    refine .region ?_
    refine asn ?_
    refine asd ?_
    refine rn ?_
    refine .gh (Gh.nlD (t := 2) rfl) ?_
    refine .ret ?_
    exact ⟨by decide, rfl, rfl, rfl⟩
end Go.FL
/-
  array.vector, Ints, Text.
-/
namespace Go.FL
open Go Go.Proofs

def dvIt (x : Itm) : DV := .ag [.i .u8 x.kind, .b x.num.1, .sl (L x.num.2.1), .sl (L x.num.2.2), .i .i32 x.char, .sl (Ars x.box)]
/-- Items of numbers. -/
def intItems : List Int → Option (List Itm)
  | [] => some []
  | n :: ns => (ratOfInt n).bind fun q => (array_number q).bind fun x => (intItems ns).bind fun xs => some (x :: xs)
theorem intItems_at : ∀ {l : List Int} {xs : List Itm}, intItems l = some xs → xs.length = l.length ∧ ∀ (i : Nat) n, l[i]? = some n → ∃ q x, ratOfInt n = some q ∧ array_number q = some x ∧ xs[i]? = some x := by
  intro l
  induction l with
  | nil => intro xs h; cases h; exact ⟨rfl, fun i n hn => by simp at hn⟩
  | cons m ns ih =>
    intro xs h
    rw [intItems] at h
    obtain ⟨q, hq, h⟩ := bnd h
    obtain ⟨x, hx, h⟩ := bnd h
    obtain ⟨ys, hy, h⟩ := bnd h
    cases h
    obtain ⟨h1, h2⟩ := ih hy
    refine ⟨by simp [h1], fun i n hn => ?_⟩
    cases i with
    | zero => simp at hn; subst hn; exact ⟨q, x, hq, hx, rfl⟩
    | succ i => simpa using h2 i n (by simpa using hn)
def itY (xs : List Itm) : List (List DV) := xs.map fun x => [dvIt x]
theorem itY_at {xs : List Itm} {i : Nat} {x : Itm} (h : xs[i]? = some x) : (itY xs)[i]? = some [dvIt x] := by simp [itY, h]

set_option maxRecDepth 10000 in
theorem Ints1_it {l : List Int} {xs : List Itm} (h : intItems l = some xs) (hl : l.length ≤ 9223372036854775806) (m : Nat) : ItG Try.prog 65 [.ptr [.sl (Is l)]] (itY xs) m := by
  obtain ⟨hlen, hat⟩ := intItems_at h
  have hyl : (itY xs).length = l.length := by simp [itY, hlen]
  refine ItG.of Try.func65 rfl rfl (nt := 18) rfl (by simp) fun lp J hJ hR => ?_
  refine .seq ?_
  refine .lift ?_
  refine .region ?_
  refine vk (vldp ga_Is) ?_
  refine vk (vlnE (Is_length _) (Is_sz _) gu_Is) ?_
  refine vk (vmvd) ?_
  refine .nil ?_
  show AWJ _ _ _ _ _ _ _ _ _
  refine .block ?_
  refine ALJ.loop ?_
  refine ALJ.gh (Gh.keep [0, 5, 6, 7] rfl) ?_
  refine ALJ.ind (σ := Nat) (m := fun i => l.length - i) (e := fun i => [(0, .d (.yl lp)), (5, .d (.sl (Is l))), (6, .d (.i .i64 ((List.length l : Nat) : Int))), (7, .d (.i .i64 ((i : Nat) : Int)))]) (h := fun _ => []) (r := fun i => i) (I := fun i => i ≤ l.length ∧ i ≤ m) ?_ 0 ⟨Nat.zero_le _, Nat.zero_le _⟩
  rintro i ⟨hi, him⟩ ih
  refine .seq ?_
  refine .lift ?_
  refine .region ?_
  refine vk (vbi) ?_
  refine .nil ?_
  show AWJ _ _ _ _ _ _ _ _ _
  refine .seq ?_
  by_cases hc : ((i : Nat) : Int) < ((List.length l : Nat) : Int)
  · refine .cond (x := true) (by show AV.d (.b (decide _)) = _; rw [decide_eq_true hc]) (fun _ => ?_) (fun h => by cases h)
    have hlt : i < l.length := by omega
    obtain ⟨q, x, hq, hx, hxi⟩ := hat i _ (List.getElem?_eq_getElem hlt)
    refine .skip ?_
    show AWJ _ _ _ _ _ _ _ _ _
    refine .seq ?_
    refine .block ?_
    refine .seq ?_
    refine .lift ?_
    refine .region ?_
    refine vk (vix i rfl (Is_at (List.getElem?_eq_getElem hlt)) rfl gs_Is) ?_
    refine vk (vldp ga_int) ?_
    refine asd ?_
    refine .nil ?_
    show AWJ _ _ _ _ _ _ _ _ _
    refine .seq ?_
    refine .region ?_
    refine vkJ (vmvd) ?_
    refine vkJ (vmvd) ?_
    refine vkJ (vcl0 (ratOfInt_ok hq) Try.call64) ?_
    refine vkJ (vcl0 (array_number_ok hx) Try.call63) ?_
    refine yld (hR i [dvIt x] (itY_at hxi) him) hJ ?_
    refine vkJ (vnt) ?_
    refine .nil ?_
    show AWJ _ _ _ _ _ _ _ _ _
    by_cases hm : i < m
    · refine .cond (x := false) (by show AV.d (.b (!decide _)) = _; rw [decide_eq_true hm]; rfl) (fun h => by cases h) (fun _ => ?_)
      refine .skip ?_
      show AWJ _ _ _ _ _ _ _ _ _
      refine .lift ?_
      refine .region ?_
      refine vk (vbi) ?_
      refine vk (vmvd) ?_
      refine .nil ?_
      show ALJ _ _ _ _ _ _ _ _ _
      have hw : IntKind.wrap .i64 ((i : Int) + 1) = ((i + 1 : Nat) : Int) := by simp only [IntKind.wrap, IntKind.bits, IntKind.signed]; simp; omega
      rw [hw]
      refine ALJ.gh (Gh.keep [0, 5, 6, 7] rfl) ?_
      exact ih (i + 1) ⟨hlt, hm⟩ (by omega)
    · refine .cond (x := true) (by show AV.d (.b (!decide _)) = _; rw [decide_eq_false hm]; rfl) (fun _ => ?_) (fun h => by cases h)
      refine .ret ?_
      exact ⟨.inr rfl, by rw [hyl]; omega⟩
  · refine .cond (x := false) (by show AV.d (.b (decide _)) = _; rw [decide_eq_false hc]) (fun h => by cases h) (fun _ => ?_)
    refine .exit ?_
    exact ⟨.inl rfl, by rw [hyl]; omega⟩

def charItems : List Int → Option (List Itm)
  | [] => some []
  | n :: ns => (array_char n).bind fun x => (charItems ns).bind fun xs => some (x :: xs)
theorem charItems_at : ∀ {l : List Int} {xs : List Itm}, charItems l = some xs → xs.length = l.length ∧ ∀ (i : Nat) n, l[i]? = some n → ∃ x, array_char n = some x ∧ xs[i]? = some x := by
  intro l
  induction l with
  | nil => intro xs h; cases h; exact ⟨rfl, fun i n hn => by simp at hn⟩
  | cons m ns ih =>
    intro xs h
    rw [charItems] at h
    obtain ⟨x, hx, h⟩ := bnd h
    obtain ⟨ys, hy, h⟩ := bnd h
    cases h
    obtain ⟨h1, h2⟩ := ih hy
    refine ⟨by simp [h1], fun i n hn => ?_⟩
    cases i with
    | zero => simp at hn; subst hn; exact ⟨x, hx, rfl⟩
    | succ i => simpa using h2 i n (by simpa using hn)
/-- The characters of a text, from a place on. -/
def runesR (s : ByteArray) : Nat → Nat → List Int
  | 0, _ => []
  | k + 1, pos => if pos < s.size then rune s pos :: runesR s k (rnext s pos) else []
def runesOf (s : ByteArray) : List Int := runesR s s.size 0
theorem rnext_gt (s : ByteArray) (pos : Nat) : pos < rnext s pos := by
  have := Lib.width_pos s pos
  unfold rnext; omega
theorem runesR_more (s : ByteArray) : ∀ (k j pos : Nat), s.size ≤ pos + k → s.size ≤ pos + j → runesR s k pos = runesR s j pos := by
  intro k
  induction k with
  | zero =>
    intro j pos h1 h2
    cases j with
    | zero => rfl
    | succ j => rw [runesR, runesR, if_neg (by omega)]
  | succ k ih =>
    intro j pos h1 h2
    cases j with
    | zero => rw [runesR, runesR, if_neg (by omega)]
    | succ j =>
      rw [runesR, runesR]
      split
      · have := rnext_gt s pos
        rw [ih j (rnext s pos) (by omega) (by omega)]
      · rfl
theorem runesR_step {s : ByteArray} {pos : Nat} (h : pos < s.size) : runesR s s.size pos = rune s pos :: runesR s s.size (rnext s pos) := by
  have := rnext_gt s pos
  cases hs : s.size with
  | zero => omega
  | succ k =>
    rw [runesR, if_pos h, runesR_more s k (k + 1) (rnext s pos) (by omega) (by omega)]
theorem runesR_end {s : ByteArray} {pos : Nat} (h : ¬ pos < s.size) : runesR s s.size pos = [] := by
  cases hs : s.size with
  | zero => rfl
  | succ k => rw [runesR, if_neg h]
set_option maxRecDepth 10000 in
theorem Text1_it {s : ByteArray} {xs : List Itm} (h : charItems (runesOf s) = some xs) (m : Nat) : ItG Try.prog 76 [.ptr [.s s]] (itY xs) m := by
  obtain ⟨hlen, hat⟩ := charItems_at h
  have hyl : (itY xs).length = (runesOf s).length := by simp [itY, hlen]
  refine ItG.of Try.func76 rfl rfl (nt := 15) rfl (by simp) fun lp J hJ hR => ?_
  refine .seq ?_
  refine .lift ?_
  refine .region ?_
  refine vk (vldp ga_string) ?_
  refine vk (vrng st) ?_
  refine .nil ?_
  show AWJ _ _ _ _ _ _ _ _ _
  refine .block ?_
  refine ALJ.loop ?_
  refine ALJ.gh (Gh.keep [0, 6] rfl) ?_
  refine ALJ.ind (σ := Nat × Nat) (m := fun p => s.size - p.2) (e := fun p => [(0, .d (.yl lp)), (6, .it s p.2)]) (h := fun _ => []) (r := fun p => p.1) (I := fun p => (runesOf s).drop p.1 = runesR s s.size p.2 ∧ p.1 ≤ m ∧ p.1 ≤ (runesOf s).length) ?_ (0, 0) ⟨rfl, Nat.zero_le _, Nat.zero_le _⟩
  rintro ⟨i, pos⟩ ⟨hd, him, hil⟩ ih
  dsimp only at hd him hil ih ⊢
  refine .seq ?_
  by_cases hc : pos < s.size
  · rw [runesR_step hc] at hd
    have hri : (runesOf s)[i]? = some (rune s pos) := by
      have := congrArg (·[0]?) hd
      simpa using this
    have hlt : i < (runesOf s).length := (List.getElem?_eq_some_iff.1 hri).1
    have hd1 : (runesOf s).drop (i + 1) = runesR s s.size (rnext s pos) := by
      have := congrArg (List.drop 1) hd
      simpa [Nat.add_comm] using this
    obtain ⟨x, hx, hxi⟩ := hat i _ hri
    refine .lift ?_
    refine .region ?_
    refine nxt ?_ hc
    refine vk (vex) ?_
    refine .nil ?_
    show AWJ _ _ _ _ _ _ _ _ _
    refine .seq ?_
    refine .cond (x := true) rfl (fun _ => ?_) (fun h => by cases h)
    refine .skip ?_
    show AWJ _ _ _ _ _ _ _ _ _
    refine .block ?_
    refine .seq ?_
    refine .lift ?_
    refine .region ?_
    refine vk (vex) ?_
    refine asd ?_
    refine .nil ?_
    show AWJ _ _ _ _ _ _ _ _ _
    refine .seq ?_
    refine .region ?_
    refine vkJ (vmvd) ?_
    refine vkJ (vmvd) ?_
    refine vkJ (vcl0 (array_char_ok hx) Try.call75) ?_
    refine yld (hR i [dvIt x] (itY_at hxi) him) hJ ?_
    refine vkJ (vnt) ?_
    refine .nil ?_
    show AWJ _ _ _ _ _ _ _ _ _
    by_cases hm : i < m
    · refine .cond (x := false) (by show AV.d (.b (!decide _)) = _; rw [decide_eq_true hm]; rfl) (fun h => by cases h) (fun _ => ?_)
      refine .skip ?_
      show ALJ _ _ _ _ _ _ _ _ _
      refine ALJ.gh (Gh.keep [0, 6] rfl) ?_
      exact ih (i + 1, rnext s pos) ⟨hd1, hm, hlt⟩ (by have := rnext_gt s pos; dsimp only; omega)
    · refine .cond (x := true) (by show AV.d (.b (!decide _)) = _; rw [decide_eq_false hm]; rfl) (fun _ => ?_) (fun h => by cases h)
      refine .ret ?_
      exact ⟨.inr rfl, by rw [hyl]; omega⟩
  · refine .lift ?_
    refine .region ?_
    refine nxe ?_ hc
    refine vk (vex) ?_
    refine .nil ?_
    show AWJ _ _ _ _ _ _ _ _ _
    refine .seq ?_
    refine .cond (x := false) rfl (fun h => by cases h) (fun _ => ?_)
    refine .exit ?_
    have hn : (runesOf s).drop i = [] := by rw [hd, runesR_end hc]
    have : (runesOf s).length ≤ i := List.drop_eq_nil_iff.1 hn
    exact ⟨.inl rfl, by rw [hyl]; omega⟩
end Go.FL
/-
  array.vector, Ints, Text: what they make.
-/
namespace Go.FL
open Go Go.Proofs

def vecOf (proto : Itm) (xs : List Itm) : Arr := .mk [((min xs.length 4096 : Nat) : Int)] (if xs.length = 0 then [proto] else xs.take 4096)
abbrev vecH (xs : List Itm) (n : Nat) : Heap := [.box [.own 3 (Is [((n : Nat) : Int)]), .own 38 (Its (xs.take n))]]

theorem gz0_Its : 0 < szOf Try.prog 38 := by rw [gz_Itm]; decide
set_option maxRecDepth 10000 in
set_option maxHeartbeats 4000000 in
theorem vector_fn {proto : Itm} {xs : List Itm} {f : FuncId} {caps : List DV} (hcall : ∀ args w, (callFunc f args).run Try.prog w = .ok (.enter f args) w) (hit : ItG Try.prog f caps (itY xs) 4096) :
    Fn Try.prog 62 [dvIt proto, .fn f [] caps] (.d (.ag [.sl (Is (vecOf proto xs).shape), .sl (Its (vecOf proto xs).items)])) := by
  refine Fn.ofMA (rs := [.cell 4 25]) (nt := 37) Try.func62 rfl rfl rfl (by simp) rfl ?_
  refine .seqA ?_
  refine .region ?_
  refine vk (vbx (cs := [.i .u8 proto.kind, .b proto.num.1, .sl (L proto.num.2.1), .sl (L proto.num.2.2), .i .i32 proto.char, .sl (Ars proto.box)])) ?_
  refine vk (van (zero_of gI_Arr) gZ_Arr) ?_
  refine .nil ?_
  show AWM _ _ _ _ _ _
  refine .seqA ?_
  refine .region ?_
  refine vk (vbslE (ds' := Is [0]) rfl (Is_flat [0]) ge_Is) ?_
  refine bdo gP_Arr gI_Arr rfl ?_
  refine al ?_ (zero_of gI_Arr) (fun w I μ => gZA_Arr w I μ)
  refine st2 (c0 := .nl) (c1 := .nl) rfl ?_ gS_Arr
  refine .nil ?_
  show AWM _ _ _ _ _ _
  refine .gh (Gh.keep [1, 2, 4, 5] rfl) ?_
  refine .gh (Gh.nlOwnC (id := 0) (off := 1) 38 gz0_Its) ?_
  refine .seq rfl ?_
  refine .seqA ?_
  refine .region ?_
  refine vk (vmvd) ?_
  refine .nil ?_
  show AWM _ _ _ _ _ _
  refine .block ?_
  refine AWM.rangeFuncG (ps := [10]) (f := f) (caps := caps) (ys := itY xs) (m := 4096) (e1 := .exit 0) rfl rfl rfl hcall hit (fun ds hd => ?_) (fun p hp => ?_) rfl (fun k H => H = vecH xs (min k 4096)) rfl (.inl ⟨0, rfl⟩) (fun l k ds H hk hkm hH => ?_) (fun H hH => ?_)
  · simp only [itY, List.mem_map] at hd
    obtain ⟨x, _, rfl⟩ := hd; rfl
  · simp only [List.mem_cons, List.not_mem_nil, or_false] at hp; subst hp; rfl
  · subst hH
    simp only [itY, List.getElem?_map, Option.map_eq_some_iff] at hk
    obtain ⟨x, hx, rfl⟩ := hk
    rw [Nat.min_eq_left hkm]
    refine .region ?_
    refine vk (van (zero_of gI_Itm) gZ_Itm) ?_
    refine stn ?_ gS_Itm (by decide)
    refine .nil ?_
    show AW _ _ _ _ _ _
    refine .block ?_
    refine .seq ?_
    refine .seq ?_
    refine .region ?_
    refine vk (vfab gF_Arr_0) ?_
    refine ldbo (cs := [.own 3 (Is [((k : Nat) : Int)]), .own 38 (Its (xs.take k))]) rfl rfl ?_ ga_Is
    refine ixr (len := 1) (xs := Is [((k : Nat) : Int)]) 0 rfl (by decide) ?_ gs_Is (by decide)
    refine lde (xs := Is [((k : Nat) : Int)]) (.i .i64 ((k : Nat) : Int)) ⟨_, rfl, rfl⟩ ?_ ga_int
    refine vk (vbi) ?_
    refine rn ?_
    by_cases hm : ((k : Nat) : Int) = 4096
    · refine cnt (decide_eq_true hm) ?_
      refine .exit ?_
      have hk4 : k = 4096 := by omega
      subst hk4
      exact ⟨rfl, rfl⟩
    refine cnf (decide_eq_false hm) ?_
    have hlt : k < 4096 := by omega
    have hkl : k < xs.length := (List.getElem?_eq_some_iff.1 hx).1
    refine .skip ?_
    show AW _ _ _ _ _ _
    refine .gh (Gh.keep [5, 6] rfl) ?_
    refine .seq ?_
    refine .region ?_
    refine vk (vfab gF_Arr_1) ?_
    refine ldbo (cs := [.own 3 (Is [((k : Nat) : Int)]), .own 38 (Its (xs.take k))]) rfl rfl ?_ ga_Its
    refine vk (vldn gA_Itm gS_Itm) ?_
    refine vk (vbslE (Its_bs1 x) (Its_flat [x]) ge_Its) ?_
    have hap : ap? 1466015503701 (xs.take k) [x] = some (xs.take (k + 1)) := by
      rw [ap?, if_pos (by simp; omega), List.take_add_one, hx]; rfl
    refine apc' Its_app hap rfl rfl gB_Its ?_ Its_sz1 Its_length ge_Its
    refine RL.gh (Gh.keep [5, 6, 20] rfl) ?_
    refine vk (vfab gF_Arr_1) ?_
    refine stbo (cs := [.own 3 (Is [((k : Nat) : Int)]), .un]) (c := .un) rfl rfl ?_ gz_Its
    refine rn ?_
    refine .gh (Gh.keep [5] rfl) ?_
    refine .region ?_
    refine vk (vfab gF_Arr_0) ?_
    refine ldbo (cs := [.own 3 (Is [((k : Nat) : Int)]), .own 38 (Its (xs.take (k + 1)))]) rfl rfl ?_ ga_Is
    refine ixr (len := 1) (xs := Is [((k : Nat) : Int)]) 0 rfl (by decide) ?_ gs_Is (by decide)
    refine lde (xs := Is [((k : Nat) : Int)]) (.i .i64 ((k : Nat) : Int)) ⟨_, rfl, rfl⟩ ?_ ga_int
    refine vk (vbi) ?_
    refine ixr (len := 1) (xs := Is [((k : Nat) : Int)]) 0 rfl (by decide) ?_ gs_Is (by decide)
    refine ste (xs := Is [((k : Nat) : Int)]) ⟨_, rfl, rfl⟩ ?_ gz_int (hn := fun _ _ _ => Nat.zero_le _)
    refine .nil ?_
    have hw : IntKind.wrap .i64 ((k : Int) + 1) = ((k + 1 : Nat) : Int) := by simp only [IntKind.wrap, IntKind.bits, IntKind.signed]; simp; omega
    refine ⟨by rw [if_pos hlt], ?_⟩
    rw [Nat.min_eq_left (by omega : k + 1 ≤ 4096)]
    show [HO.box [AV.own _ [.i .i64 (IntKind.wrap .i64 ((k : Int) + 1))], _]] = _
    rw [hw]; rfl
  · have hlen : (itY xs).length = xs.length := by simp [itY]
    rw [hlen] at hH ⊢
    have hn : min (min (4096 + 1) xs.length) 4096 = min xs.length 4096 := by omega
    rw [hn] at hH
    subst hH
    by_cases hb : 4096 < xs.length
    case' pos => rw [if_pos hb]
    case' neg => rw [if_neg hb]
    all_goals
      show AWM _ _ _ _ _ _
      refine .lift ?_
      refine .gh (Gh.keep [2, 4, 5] rfl) ?_
      refine .seq ?_
      refine .seq ?_
      refine .region ?_
      refine vk (vfab gF_Arr_0) ?_
      refine ldbo (cs := [.own 3 (Is [((min xs.length 4096 : Nat) : Int)]), .own 38 (Its (xs.take (min xs.length 4096)))]) rfl rfl ?_ ga_Is
      refine ixr (len := 1) (xs := Is [((min xs.length 4096 : Nat) : Int)]) 0 rfl (by decide) ?_ gs_Is (by decide)
      refine lde (xs := Is [((min xs.length 4096 : Nat) : Int)]) (.i .i64 ((min xs.length 4096 : Nat) : Int)) ⟨_, rfl, rfl⟩ ?_ ga_int
      refine vk (vbi) ?_
      refine rn ?_
      refine .gh (Gh.keep [2, 4, 5, 32] rfl) ?_
      by_cases h0 : ((min xs.length 4096 : Nat) : Int) = 0
      · have hx0 : xs.length = 0 := by omega
        refine cnt (decide_eq_true h0) ?_
        refine .region ?_
        refine vk (vlda gA_Itm gS_Itm) ?_
        refine vk (vbslE (Its_bs1 proto) (Its_flat [proto]) ge_Its) ?_
        refine vk (vfab gF_Arr_1) ?_
        refine stbo (cs := [.own 3 (Is [((min xs.length 4096 : Nat) : Int)]), .own 38 (Its (xs.take (min xs.length 4096)))]) (c := .own 38 (Its (xs.take (min xs.length 4096)))) rfl rfl ?_ gz_Its
        refine .nil ?_
        show AW _ _ _ _ _ _
        refine .gh (Gh.keep [4, 5] rfl) ?_
        refine .seq ?_
        refine .region ?_
        refine fz (p := .c 0 0) ?_
        refine fz (p := .c 0 1) ?_
        refine vk (vldba (cs := [.d (.sl (Is [((min xs.length 4096 : Nat) : Int)])), .d (.sl (Its [proto]))]) (ds := [.sl (Is [((min xs.length 4096 : Nat) : Int)]), .sl (Its [proto])]) rfl gA_Arr gS_Arr) ?_
        refine stn ?_ gS_Arr (by decide)
        refine rn ?_
        refine .ret ?_
        exact ⟨.inr rfl, .inl ⟨_, ⟨.inr rfl, gA_Arr, gS_Arr, (by decide : (0 : Nat) < 2)⟩, by simp only [vecOf, if_pos hx0]; rfl⟩⟩
      · have hx0 : ¬ xs.length = 0 := by omega
        refine cnf (decide_eq_false h0) ?_
        refine .skip ?_
        show AW _ _ _ _ _ _
        refine .gh (Gh.keep [4, 5] rfl) ?_
        refine .seq ?_
        refine .region ?_
        refine fz (p := .c 0 0) ?_
        refine fz (p := .c 0 1) ?_
        refine vk (vldba (cs := [.d (.sl (Is [((min xs.length 4096 : Nat) : Int)])), .d (.sl (Its (xs.take (min xs.length 4096))))]) (ds := [.sl (Is [((min xs.length 4096 : Nat) : Int)]), .sl (Its (xs.take (min xs.length 4096)))]) rfl gA_Arr gS_Arr) ?_
        refine stn ?_ gS_Arr (by decide)
        refine rn ?_
        refine .ret ?_
        have ht : xs.take (min xs.length 4096) = xs.take 4096 := by
          rcases Nat.le_total xs.length 4096 with h | h
          · rw [Nat.min_eq_left h, List.take_of_length_le (Nat.le_refl _), List.take_of_length_le h]
          · rw [Nat.min_eq_right h]
        exact ⟨.inr rfl, .inl ⟨_, ⟨.inr rfl, gA_Arr, gS_Arr, (by decide : (0 : Nat) < 2)⟩, by simp only [vecOf, if_neg hx0, ht]; rfl⟩⟩

def arInts (l : List Int) : Option Arr := if l.length ≤ 9223372036854775806 then (intItems l).bind fun xs => (ratOfInt 0).bind fun q => (array_number q).bind fun p => some (vecOf p xs) else none
theorem arInts_ok {l : List Int} {r : Arr} (h : arInts l = some r) : Fn Try.prog 19 [.sl (Is l)] (.d (.ag [.sl (Is r.shape), .sl (Its r.items)])) := by
  obtain ⟨hl, h⟩ := ite_n h
  obtain ⟨xs, hxs, h⟩ := bnd h
  obtain ⟨q, hq, h⟩ := bnd h
  obtain ⟨p, hp, h⟩ := bnd h
  cases h
  refine Fn.ofC (rs := [.cell 2 25]) (nt := 7) Try.func19 rfl rfl rfl (by simp) rfl ?_
  refine .seq ?_
  refine .region ?_
  refine vk (vbxd) ?_
  refine vk (van (zero_of gI_Arr) gZ_Arr) ?_
  refine rn ?_
  refine .seq ?_
  refine .region ?_
  refine vk (vcl0 (ratOfInt_ok hq) Try.call64) ?_
  refine vk (vcl0 (array_number_ok hp) Try.call63) ?_
  refine vk (vmkf) ?_
  refine vk (vcl0 (vector_fn (proto := p) Try.call65 (Ints1_it hxs hl 4096)) Try.call62) ?_
  refine stn ?_ gS_Arr (by decide)
  refine rn ?_
  refine .ret ?_
  exact ⟨_, ⟨.inr rfl, gA_Arr, gS_Arr, (by decide : (0 : Nat) < 2)⟩, rfl⟩
def arText (s : ByteArray) : Option Arr := (charItems (runesOf s)).bind fun xs => (array_char 32).bind fun p => some (vecOf p xs)
theorem arText_ok {s : ByteArray} {r : Arr} (h : arText s = some r) : Fn Try.prog 33 [.s s] (.d (.ag [.sl (Is r.shape), .sl (Its r.items)])) := by
  obtain ⟨xs, hxs, h⟩ := bnd h
  obtain ⟨p, hp, h⟩ := bnd h
  cases h
  refine Fn.ofC (rs := [.cell 2 25]) (nt := 6) Try.func33 rfl rfl rfl (by simp) rfl ?_
  refine .seq ?_
  refine .region ?_
  refine vk (vbxd) ?_
  refine vk (van (zero_of gI_Arr) gZ_Arr) ?_
  refine rn ?_
  refine .seq ?_
  refine .region ?_
  refine vk (vcl0 (array_char_ok hp) Try.call75) ?_
  refine vk (vmkf) ?_
  refine vk (vcl0 (vector_fn (proto := p) Try.call76 (Text1_it hxs 4096)) Try.call62) ?_
  refine stn ?_ gS_Arr (by decide)
  refine rn ?_
  refine .ret ?_
  exact ⟨_, ⟨.inr rfl, gA_Arr, gS_Arr, (by decide : (0 : Nat) < 2)⟩, rfl⟩
end Go.FL
/-
  GP: glyphlaw03: live.
-/
namespace Go.FL
open Go Go.Proofs

def law03_live : Option (Bool) := ((arInts ([1, 2, 3])).bind fun x1 => ((array_Items x1).bind fun x2 => ((array_Make ([2, 2]) x2).bind fun x3 => ((array_Int 7).bind fun x4 => ((array_ToInt x4).bind fun x5 => (Option.bind ((if x3.2 = 0 then ((array_Right x3.1).bind fun x7 => (if x7 = true then (if ((List.length x3.1.items : Nat) : Int) = 4 then ((array_Depth x3.1).bind fun x8 => (if x8 = 1 then ((array_Cells x3.1).bind fun x9 => (if x9 = 4 then (if x5.1 = 7 then (some x5.2) else (some false)) else (some false))) else (some false))) else (some false)) else (some false))) else (some false)) : Option (Bool)) fun (z6 : Bool) => (some (z6))))))))
theorem law03_live_ok {r : Bool} (h : law03_live = some r) :
    Fn Try.prog 16 [] (.d (.b r)) := by
  unfold law03_live at h
  refine Fn.of (rs := [.tmp 0]) (nt := 47) Try.func16 rfl rfl rfl (by simp) rfl ?_
  refine .seq ?_
  refine .region ?_
  refine asd ?_
  refine rn ?_
  refine .gh (Gh.keep [0] rfl) ?_
  refine .seq ?_
  refine .region ?_
  refine vk ((vbsl (Is_flat [2, 2]) ge_Is).deep) ?_
  refine vk ((vbsl (Is_flat [1, 2, 3]) ge_Is).deep) ?_
  obtain ⟨x1, hx1, h⟩ := bnd h
  refine vk (vcl0 (arInts_ok hx1) Try.call19) ?_
  obtain ⟨x2, hx2, h⟩ := bnd h
  refine vk (vcl0 (array_Items_ok hx2) Try.call53) ?_
  obtain ⟨x3, hx3, h⟩ := bnd h
  refine vk (VOK.tupd (vs := [.ag [.sl (Is x3.1.shape), .sl (Its x3.1.items)], .i .i64 x3.2]) (vcl0 (array_Make_ok hx3) Try.call17)) ?_
  refine vk (vmvd) ?_
  refine vk (vex) ?_
  refine vk (vex) ?_
  refine vk (van (zero_of gI_Arr) gZ_Arr) ?_
  refine stn ?_ gS_Arr (by decide)
  refine asd ?_
  refine rn ?_
  refine .gh (Gh.keep [0, 1, 2] rfl) ?_
  refine .seq ?_
  refine .region ?_
  obtain ⟨x4, hx4, h⟩ := bnd h
  refine vk (vcl0 (array_Int_ok hx4) Try.call24) ?_
  obtain ⟨x5, hx5, h⟩ := bnd h
  refine vk (VOK.tupd (vs := [.i .i64 x5.1, .b x5.2]) (vcl0 (array_ToInt_ok hx5) Try.call23)) ?_
  refine vk (vmvd) ?_
  refine vk (vex) ?_
  refine vk (vex) ?_
  refine asd ?_
  refine asd ?_
  refine rn ?_
  refine .gh (Gh.keep [0, 1, 2, 3, 4] rfl) ?_
  refine .seq ?_
  refine .gh (Gh.nbp (t := 1) rfl) ?_
  obtain ⟨z6, hz, h⟩ := bnd h
  refine AW.mr (σ := Unit) (fun _ => True) (fun _ => [(0, .d (.b z6))]) (fun _ => []) ?_ ?_
  · skip
    refine .region ?_
    refine vk (vmvd) ?_
    refine vk (vbi) ?_
    by_cases hc : x3.2 = 0
    · replace hz := ite_t hc hz
      have hb0 : (decide (x3.2 = 0)) = true := (decide_eq_true hc)
      refine vk (VOK.lit (vmvd) hb0) ?_
      refine vk (vlda gA_Arr gS_Arr) ?_
      obtain ⟨x7, hx7, hz⟩ := bnd hz
      refine vk (vcl0 (array_Right_ok hx7) Try.call12) ?_
      refine vk (vpkd) ?_
      by_cases hc : x7 = true
      · replace hz := ite_t hc hz
        have hb1 : x7 = true := hc
        refine vk (VOK.lit (vmvd) hb1) ?_
        refine vk (vfa gF_Arr_1) ?_
        refine vk (vldp ga_Its) ?_
        refine vk (vlnE (Its_length _) (Its_sz _) gu_Its) ?_
        refine vk (vbi) ?_
        refine vk (vpkd) ?_
        by_cases hc : ((List.length x3.1.items : Nat) : Int) = 4
        · replace hz := ite_t hc hz
          have hb2 : (decide (((List.length x3.1.items : Nat) : Int) = 4)) = true := (decide_eq_true hc)
          refine vk (VOK.lit (vmvd) hb2) ?_
          refine vk (vlda gA_Arr gS_Arr) ?_
          obtain ⟨x8, hx8, hz⟩ := bnd hz
          refine vk (vcl0 (array_Depth_ok hx8) Try.call14) ?_
          refine vk (vbi) ?_
          refine vk (vpkd) ?_
          by_cases hc : x8 = 1
          · replace hz := ite_t hc hz
            have hb3 : (decide (x8 = 1)) = true := (decide_eq_true hc)
            refine vk (VOK.lit (vmvd) hb3) ?_
            refine vk (vlda gA_Arr gS_Arr) ?_
            obtain ⟨x9, hx9, hz⟩ := bnd hz
            refine vk (vcl0 (array_Cells_ok hx9) Try.call15) ?_
            refine vk (vbi) ?_
            refine vk (vpkd) ?_
            by_cases hc : x9 = 4
            · replace hz := ite_t hc hz
              have hb4 : (decide (x9 = 4)) = true := (decide_eq_true hc)
              refine vk (VOK.lit (vmvd) hb4) ?_
              refine vk (vmvd) ?_
              refine vk (vbi) ?_
              refine vk (vpkd) ?_
              by_cases hc : x5.1 = 7
              · replace hz := ite_t hc hz
                have hb5 : (decide (x5.1 = 7)) = true := (decide_eq_true hc)
                refine vk (VOK.lit (vmvd) hb5) ?_
                refine vk (vmvd) ?_
                refine vk (vpkd) ?_
                refine asd ?_
                refine RL.gh (Gh.keep [0] rfl) ?_
                refine .nil ?_
                cases hz
                exact jr () trivial
              replace hz := ite_f hc hz
              have hb5 : (decide (x5.1 = 7)) = false := (decide_eq_false hc)
              refine vk (VOK.lit (vmvd) hb5) ?_
              refine gf ?_
              refine vk (vpkd) ?_
              refine asd ?_
              refine RL.gh (Gh.keep [0] rfl) ?_
              refine .nil ?_
              cases hz
              exact jr () trivial
            replace hz := ite_f hc hz
            have hb4 : (decide (x9 = 4)) = false := (decide_eq_false hc)
            refine vk (VOK.lit (vmvd) hb4) ?_
            refine gf ?_
            refine gf ?_
            refine vk (vpkd) ?_
            refine vk (vmvd) ?_
            refine gf ?_
            refine vk (vpkd) ?_
            refine asd ?_
            refine RL.gh (Gh.keep [0] rfl) ?_
            refine .nil ?_
            cases hz
            exact jr () trivial
          replace hz := ite_f hc hz
          have hb3 : (decide (x8 = 1)) = false := (decide_eq_false hc)
          refine vk (VOK.lit (vmvd) hb3) ?_
          refine gf ?_
          refine gf ?_
          refine gf ?_
          refine vk (vpkd) ?_
          refine vk (vmvd) ?_
          refine gf ?_
          refine gf ?_
          refine vk (vpkd) ?_
          refine vk (vmvd) ?_
          refine gf ?_
          refine vk (vpkd) ?_
          refine asd ?_
          refine RL.gh (Gh.keep [0] rfl) ?_
          refine .nil ?_
          cases hz
          exact jr () trivial
        replace hz := ite_f hc hz
        have hb2 : (decide (((List.length x3.1.items : Nat) : Int) = 4)) = false := (decide_eq_false hc)
        refine vk (VOK.lit (vmvd) hb2) ?_
        refine gf ?_
        refine gf ?_
        refine gf ?_
        refine vk (vpkd) ?_
        refine vk (vmvd) ?_
        refine gf ?_
        refine gf ?_
        refine gf ?_
        refine vk (vpkd) ?_
        refine vk (vmvd) ?_
        refine gf ?_
        refine gf ?_
        refine vk (vpkd) ?_
        refine vk (vmvd) ?_
        refine gf ?_
        refine vk (vpkd) ?_
        refine asd ?_
        refine RL.gh (Gh.keep [0] rfl) ?_
        refine .nil ?_
        cases hz
        exact jr () trivial
      replace hz := ite_f hc hz
      have hb1 : x7 = false := (bf hc)
      refine vk (VOK.lit (vmvd) hb1) ?_
      refine gf ?_
      refine gf ?_
      refine gf ?_
      refine gf ?_
      refine vk (vpkd) ?_
      refine vk (vmvd) ?_
      refine gf ?_
      refine gf ?_
      refine gf ?_
      refine vk (vpkd) ?_
      refine vk (vmvd) ?_
      refine gf ?_
      refine gf ?_
      refine gf ?_
      refine vk (vpkd) ?_
      refine vk (vmvd) ?_
      refine gf ?_
      refine gf ?_
      refine vk (vpkd) ?_
      refine vk (vmvd) ?_
      refine gf ?_
      refine vk (vpkd) ?_
      refine asd ?_
      refine RL.gh (Gh.keep [0] rfl) ?_
      refine .nil ?_
      cases hz
      exact jr () trivial
    replace hz := ite_f hc hz
    have hb0 : (decide (x3.2 = 0)) = false := (decide_eq_false hc)
    refine vk (VOK.lit (vmvd) hb0) ?_
    refine gf ?_
    refine gf ?_
    refine vk (vpkd) ?_
    refine vk (vmvd) ?_
    refine gf ?_
    refine gf ?_
    refine gf ?_
    refine gf ?_
    refine vk (vpkd) ?_
    refine vk (vmvd) ?_
    refine gf ?_
    refine gf ?_
    refine gf ?_
    refine vk (vpkd) ?_
    refine vk (vmvd) ?_
    refine gf ?_
    refine gf ?_
    refine gf ?_
    refine vk (vpkd) ?_
    refine vk (vmvd) ?_
    refine gf ?_
    refine gf ?_
    refine vk (vpkd) ?_
    refine vk (vmvd) ?_
    refine gf ?_
    refine vk (vpkd) ?_
    refine asd ?_
    refine RL.gh (Gh.keep [0] rfl) ?_
    refine .nil ?_
    cases hz
    exact jr () trivial
  rintro _ _
  refine .ret ?_
  cases h
  exact ⟨rfl, rfl⟩
end Go.FL
/-
  Plain laws of arrays, 3: types; what is right has few limbs.
-/
namespace Go.FL
open Go Go.Proofs

mutual
/-- The type of an item. -/
def tyI : Itm → Itm
  | .mk k _ _ b => if k = 1 then .mk 1 (ofQ 0) 0 [] else if k = 2 then .mk 2 (false, [], []) 32 [] else .mk 3 (false, [], []) 0 (tyBs b)
def tyA : Arr → Arr
  | .mk s i => .mk s (tyIs i)
def tyIs : List Itm → List Itm
  | [] => []
  | x :: xs => tyI x :: tyIs xs
def tyBs : List Arr → List Arr
  | [] => []
  | a :: _ => [tyA a]
end
theorem sh_mk (s : List Int) (i : List Itm) : (Arr.mk s i).shape = s := rfl
theorem it_mk (s : List Int) (i : List Itm) : (Arr.mk s i).items = i := rfl
theorem kd_mk (k : Int) (n : RT) (c : Int) (b : List Arr) : (Itm.mk k n c b).kind = k := rfl
theorem nm_mk (k : Int) (n : RT) (c : Int) (b : List Arr) : (Itm.mk k n c b).num = n := rfl
theorem ch_mk (k : Int) (n : RT) (c : Int) (b : List Arr) : (Itm.mk k n c b).char = c := rfl
theorem bx_mk (k : Int) (n : RT) (c : Int) (b : List Arr) : (Itm.mk k n c b).box = b := rfl
theorem tyIs_map (xs : List Itm) : tyIs xs = xs.map tyI := by induction xs with
  | nil => simp [tyIs]
  | cons x xs ih => simp [tyIs, ih]
theorem tyA_eq (a : Arr) : tyA a = .mk a.shape (a.items.map tyI) := by cases a; simp only [tyA, tyIs_map]; rfl
theorem rIs_mem : ∀ {xs : List Itm}, rIs xs = true ↔ ∀ x ∈ xs, rI x = true
  | [] => by simp [rIs]
  | x :: xs => by simp [rIs, rIs_mem (xs := xs)]
theorem rBs_mem : ∀ {xs : List Arr}, rBs xs = true ↔ ∀ a ∈ xs, simpleB a = false ∧ rA a = true
  | [] => by simp [rBs]
  | x :: xs => by simp [rBs, rBs_mem (xs := xs)]
/-- The kinds of what is right. -/
theorem rI_cases {x : Itm} (h : rI x = true) : (x.kind = 1 ∧ rightR x.num = true ∧ x.char = 0 ∧ x.box = []) ∨ (x.kind = 2 ∧ chB x.char = true ∧ x.num = (false, [], []) ∧ x.box = []) ∨ (x.kind = 3 ∧ x.num = (false, [], []) ∧ x.char = 0 ∧ ∃ a, x.box = [a] ∧ simpleB a = false ∧ rA a = true) := by
  rw [rI_eq] at h
  by_cases k1 : x.kind = 1
  · rw [if_pos k1] at h; simp only [Bool.and_eq_true, decide_eq_true_eq] at h
    exact .inl ⟨k1, h.1, h.2.1, List.length_eq_zero_iff.1 h.2.2⟩
  rw [if_neg k1] at h
  by_cases k2 : x.kind = 2
  · rw [if_pos k2] at h; simp only [Bool.and_eq_true, decide_eq_true_eq] at h
    exact .inr (.inl ⟨k2, h.1, (noNumB_iff x).1 h.2.1, List.length_eq_zero_iff.1 h.2.2⟩)
  rw [if_neg k2] at h
  by_cases k3 : x.kind = 3
  · rw [if_pos k3] at h; simp only [Bool.and_eq_true, decide_eq_true_eq] at h
    obtain ⟨a, ha⟩ := List.length_eq_one_iff.1 h.1
    refine .inr (.inr ⟨k3, (noNumB_iff x).1 h.2.1, h.2.2.1, a, ha, rBs_mem.1 h.2.2.2 a (by simp [ha])⟩)
  · rw [if_neg k3] at h; cases h
theorem okL_few {p : Rat} (h : fits p) : okL 1048576 (ofQ p).2.1 = true ∧ okL 1048576 (ofQ p).2.2 = true := ⟨okL_digs (Nat.le_trans h.1 (by decide)), okL_digs (Nat.le_trans h.2 (by decide))⟩
theorem few_right {r : RT} (h : rightR r = true) : okL 1048576 r.2.1 = true ∧ okL 1048576 r.2.2 = true := by
  obtain ⟨p, hp, rfl⟩ := right_iff.1 h
  exact okL_few hp
theorem smI_of : ∀ (k : Nat) {x : Itm}, x.size < k → rI x = true → smI x
  | 0, x, h, _ => by omega
  | k + 1, x, h, hr => by
    rw [smI_iff]
    rcases rI_cases hr with ⟨_, h1, _, h2⟩ | ⟨_, _, h1, h2⟩ | ⟨_, h1, _, a, h2, _, h3⟩
    · rw [h2]; exact ⟨(few_right h1).1, (few_right h1).2, nofun⟩
    · rw [h1, h2]; exact ⟨rfl, rfl, nofun⟩
    · rw [h1]
      refine ⟨rfl, rfl, fun b hb => ?_⟩
      have hs := size_box hb
      rw [h2, List.mem_singleton] at hb
      subst hb
      rw [rA_eq] at h3
      simp only [Bool.and_eq_true] at h3
      rw [smA_iff]
      exact fun y hy => smI_of k (by have := size_in hy; omega) (rIs_mem.1 h3.2.2 y hy)
theorem smI_right {x : Itm} (h : rI x = true) : smI x := smI_of _ (Nat.lt_succ_self _) h
theorem smA_right {a : Arr} (h : rA a = true) : smA a := by
  rw [rA_eq] at h; simp only [Bool.and_eq_true] at h
  rw [smA_iff]; exact fun y hy => smI_right (rIs_mem.1 h.2.2 y hy)
/-- What a type keeps. -/
def TyOk (x : Itm) : Prop := rI (tyI x) = true ∧ dI (tyI x) = dI x ∧ cI (tyI x) = cI x ∧ tyI (tyI x) = tyI x ∧ (tyI x).kind = x.kind ∧ okI (tyI x)
theorem simple_map {s : List Int} {i : List Itm} {f : Itm → Itm} (h : ∀ x ∈ i, (f x).kind = x.kind) : simpleB (.mk s (i.map f)) = simpleB (.mk s i) := by
  unfold simpleB
  match i with
  | [] => rfl
  | [x] => simp only [sh_mk, it_mk, List.map, h x (by simp)]
  | x :: y :: r => rfl
theorem cIs_map {f : Itm → Itm} : ∀ {i : List Itm}, (∀ x ∈ i, cI (f x) = cI x) → cIs (i.map f) = cIs i
  | [], _ => rfl
  | x :: xs, h => by simp only [List.map, cIs]; rw [h x (by simp), cIs_map fun y hy => h y (by simp [hy])]
theorem dIs_map {f : Itm → Itm} : ∀ {i : List Itm}, (∀ x ∈ i, dI (f x) = dI x) → dIs (i.map f) = dIs i
  | [], _ => rfl
  | x :: xs, h => by simp only [List.map, dIs]; rw [h x (by simp), dIs_map fun y hy => h y (by simp [hy])]
/-- What the type of an array keeps, when its items' types do. -/
theorem tyA_of {a : Arr} (oa : okAr a) (hr : rA a = true) (ih : ∀ x ∈ a.items, TyOk x) : rA (tyA a) = true ∧ dA (tyA a) = dA a ∧ cA (tyA a) = cA a ∧ tyA (tyA a) = tyA a ∧ simpleB (tyA a) = simpleB a ∧ okAr (tyA a) := by
  have o := (okAr_iff a).1 oa
  have hs : simpleB (tyA a) = simpleB a := by
    rw [tyA_eq, simple_map (fun x hx => (ih x hx).2.2.2.2.1), Arr.eta]
  rw [rA_eq] at hr
  simp only [Bool.and_eq_true, decide_eq_true_eq] at hr
  refine ⟨?_, ?_, ?_, ?_, hs, ?_⟩
  · rw [rA_eq, tyA_eq]
    simp only [sh_mk, it_mk, List.length_map, Bool.and_eq_true, decide_eq_true_eq]
    refine ⟨decide_eq_true hr.1, hr.2.1, rIs_mem.2 fun x hx => ?_⟩
    obtain ⟨y, hy, rfl⟩ := List.mem_map.1 hx
    exact (ih y hy).1
  · rw [dA_eq, dA_eq, hs, tyA_eq]
    simp only [it_mk]
    rw [dIs_map fun x hx => (ih x hx).2.1]
  · rw [cA_eq, cA_eq, tyA_eq]
    simp only [it_mk, List.length_map]
    rw [cIs_map fun x hx => (ih x hx).2.2.1]
  · rw [tyA_eq, tyA_eq]
    simp only [sh_mk, it_mk, List.map_map, Arr.mk.injEq, true_and]
    exact List.map_congr_left fun x hx => (ih x hx).2.2.2.1
  · rw [okAr_iff, tyA_eq]
    simp only [sh_mk, it_mk, List.length_map]
    refine ⟨o.1, o.2.1, o.2.2.1, fun x hx => ?_⟩
    obtain ⟨y, hy, rfl⟩ := List.mem_map.1 hx
    exact (ih y hy).2.2.2.2.2
theorem tyI_1 (n : RT) (c : Int) (b : List Arr) : tyI (.mk 1 n c b) = .mk 1 (ofQ 0) 0 [] := by simp [tyI]
theorem tyI_2 (n : RT) (c : Int) (b : List Arr) : tyI (.mk 2 n c b) = .mk 2 (false, [], []) 32 [] := by simp [tyI]
theorem tyI_3 (n : RT) (c : Int) (a : Arr) : tyI (.mk 3 n c [a]) = .mk 3 (false, [], []) 0 [tyA a] := by simp [tyI, tyBs]
theorem okI_num {r : RT} (h : okRB r = true) : okI (.mk 1 r 0 []) := by
  simp [okI, okAs, h]
theorem okI_char {c : Int} (h : chB c = true) : okI (.mk 2 (false, [], []) c []) := by
  simp only [chB, Bool.and_eq_true, decide_eq_true_eq] at h
  refine ⟨by omega, rfl, by omega, by simp, trivial⟩
theorem okI_box {a : Arr} (h : okAr a) : okI (.mk 3 (false, [], []) 0 [a]) := ⟨by omega, rfl, by omega, by simp, h, trivial⟩
theorem rI_num {r : RT} (h : rightR r = true) : rI (.mk 1 r 0 []) = true := by simp [rI, h]
theorem rI_char {c : Int} (h : chB c = true) : rI (.mk 2 (false, [], []) c []) = true := by simp [rI, h, noNumB, Itm.num]
theorem rI_box {a : Arr} (h : rA a = true) (hs : simpleB a = false) : rI (.mk 3 (false, [], []) 0 [a]) = true := by simp [rI, rBs, h, hs, noNumB, Itm.num]
theorem tyI_of : ∀ (k : Nat) {x : Itm}, x.size < k → okI x → rI x = true → TyOk x
  | 0, x, h, _, _ => by omega
  | k + 1, x, h, ho, hr => by
    have hc := rI_cases hr
    cases x with
    | mk kd n c b =>
      simp only [kd_mk, nm_mk, ch_mk, bx_mk] at hc
      unfold TyOk
      rcases hc with ⟨rfl, h1, rfl, rfl⟩ | ⟨rfl, h1, rfl, rfl⟩ | ⟨rfl, rfl, rfl, a, rfl, h2, h3⟩
      · rw [tyI_1, tyI_1]
        exact ⟨rI_num (ofQ_right fits_zero), rfl, rfl, rfl, rfl, okI_num (ofQ_okRB fits_zero)⟩
      · rw [tyI_2, tyI_2]
        exact ⟨rI_char rfl, rfl, rfl, rfl, rfl, okI_char rfl⟩
      · have hb : a ∈ Itm.box (.mk 3 (false, [], []) 0 [a]) := by simp [Itm.box]
        have hz := size_box hb
        have oa : okAr a := ((okI_iff _).1 ho).2.2.2.2 a hb
        have h3' := h3
        rw [rA_eq] at h3'; simp only [Bool.and_eq_true] at h3'
        obtain ⟨p1, p2, p3, p4, p5, p6⟩ := tyA_of oa h3 fun y hy => tyI_of k (by have := size_in hy; omega) (((okAr_iff a).1 oa).2.2.2 y hy) (rIs_mem.1 h3'.2.2 y hy)
        rw [tyI_3, tyI_3, p4]
        refine ⟨rI_box p1 (by rw [p5, h2]), ?_, ?_, rfl, rfl, okI_box p6⟩
        · simp only [dI, dBs, p2]
        · simp only [cI, cBs, p3]
theorem tyI_ok {x : Itm} (ho : okI x) (hr : rI x = true) : TyOk x := tyI_of _ (Nat.lt_succ_self _) ho hr
theorem tyA_ok {a : Arr} (oa : okAr a) (hr : rA a = true) : rA (tyA a) = true ∧ dA (tyA a) = dA a ∧ cA (tyA a) = cA a ∧ tyA (tyA a) = tyA a ∧ simpleB (tyA a) = simpleB a ∧ okAr (tyA a) := by
  have h' := hr
  rw [rA_eq] at h'; simp only [Bool.and_eq_true] at h'
  exact tyA_of oa hr fun x hx => tyI_ok (((okAr_iff a).1 oa).2.2.2 x hx) (rIs_mem.1 h'.2.2 x hx)
theorem tyA_right {a : Arr} (oa : okAr a) (hr : RightA a) : RightA (tyA a) := by
  obtain ⟨p1, p2, p3, _⟩ := tyA_ok oa hr.1
  exact ⟨p1, by rw [p2]; exact hr.2.1, by rw [p3]; exact hr.2.2⟩
/-- The program's type of an item. -/
theorem typed_r_eq : ∀ (k : Nat) {x : Itm}, x.size < k → okI x → rI x = true → ar_typed_r k x = some (tyI x)
  | 0, x, h, _, _ => by omega
  | k + 1, x, h, ho, hr => by
    have hc := rI_cases hr
    cases x with
    | mk kd n c b =>
      simp only [kd_mk, nm_mk, ch_mk, bx_mk] at hc
      rw [ar_typed_r, ar_typedB]
      rcases hc with ⟨rfl, h1, rfl, rfl⟩ | ⟨rfl, h1, rfl, rfl⟩ | ⟨rfl, rfl, rfl, a, rfl, h2, h3⟩
      · rw [if_pos (kd_mk 1 n 0 []), tyI_1, ofInt_q (by omega) (by omega), Option.bind_some, Rat.intCast_zero, number_item (ofQ_okRB fits_zero), Option.bind_some]
      · rw [if_neg (by rw [kd_mk]; decide), if_pos (kd_mk 2 _ c []), tyI_2]; rfl
      · have hb : a ∈ Itm.box (.mk 3 (false, [], []) 0 [a]) := by simp [Itm.box]
        have hz := size_box hb
        have oa : okAr a := ((okI_iff _).1 ho).2.2.2.2 a hb
        have h3' := h3
        rw [rA_eq] at h3'; simp only [Bool.and_eq_true] at h3'
        have o := (okAr_iff a).1 oa
        rw [if_neg (by rw [kd_mk]; decide), if_neg (by rw [kd_mk]; decide), bx_mk, rd_0, Option.bind_some, copied_eq (h := tyI) (fun y hy => typed_r_eq k (by have := size_in hy; omega) (o.2.2.2 y hy) (rIs_mem.1 h3'.2.2 y hy)) o.2.1 o.2.2.1, Option.bind_some, tyI_3, tyA_eq]
theorem typed_eq {x : Itm} (ho : okI x) (hr : rI x = true) : ar_typed x = some (tyI x) := typed_r_eq _ (Nat.lt_succ_self _) ho hr
theorem arr_right {a : Arr} (h : rA a = true) : (szP a.shape).2 = 0 ∧ (a.items.length : Int) = (if (szP a.shape).1 < 1 then 1 else (szP a.shape).1) ∧ ∀ x ∈ a.items, rI x = true := by
  rw [rA_eq] at h; simp only [Bool.and_eq_true, decide_eq_true_eq] at h
  exact ⟨h.1, h.2.1, rIs_mem.1 h.2.2⟩
theorem Type_eq {a : Arr} (ha : okAr a) : array_Type a = some (if RightA a then tyA a else .mk [] []) := by
  have o := (okAr_iff a).1 ha
  unfold array_Type
  rw [Right_eq ha, Option.bind_some]
  by_cases h : RightA a
  · rw [decide_eq_true h, if_pos rfl, if_pos h, copied_eq (h := tyI) (fun y hy => typed_eq (o.2.2.2 y hy) ((arr_right h.1).2.2 y hy)) o.2.1 o.2.2.1, tyA_eq]; rfl
  · rw [decide_eq_false h, if_neg h]; rfl
theorem Match_eq {a b : Arr} (ha : okAr a) (hb : okAr b) (h1 : RightA a) (h2 : RightA b) : Tells (array_Match a b) (a = b) := by
  unfold array_Match
  rw [Right_eq ha, Option.bind_some, decide_eq_true h1, if_pos rfl, Right_eq hb, Option.bind_some, decide_eq_true h2, if_pos rfl]
  obtain ⟨r, hr, h⟩ := equal_eq ha hb (smA_right h1.1)
  exact ⟨r, by rw [hr]; rfl, h⟩
theorem Items_eq {a : Arr} (ha : okAr a) : array_Items a = some (if (szP a.shape).1 = 0 ∨ ¬ RightA a then [] else a.items) := by
  have o := (okAr_iff a).1 ha
  unfold array_Items
  rw [Size_eq o.2.1, Option.bind_some]
  by_cases h0 : (szP a.shape).1 = 0
  · rw [if_pos h0, if_pos (.inl h0)]; rfl
  rw [if_neg h0, Right_eq ha, Option.bind_some]
  by_cases h : RightA a
  · rw [decide_eq_true h, if_neg (by rintro (q | q); exact h0 q; exact q h), Bool.not_true, Option.bind_some, if_neg (by decide), copySame_eq ha]; rfl
  · rw [decide_eq_false h, if_pos (.inr h)]; rfl
/-- What Enclose gives. -/
theorem Enclose_eq {a : Arr} (ha : okAr a) (hr : RightA a) : array_Enclose a = some (if simpleB a then a.items.headD default else .mk 3 (false, [], []) 0 [a]) := by
  have o := (okAr_iff a).1 ha
  unfold array_Enclose
  rw [Right_eq ha, Option.bind_some, decide_eq_true hr, if_pos rfl, isSimple_eq, Option.bind_some]
  by_cases hs : simpleB a = true
  · rw [if_pos hs, if_pos hs]
    have := hs
    unfold simpleB at this
    rw [Bool.and_eq_true] at this
    match hi : a.items, this.2 with
    | [x], _ => rw [rd_0, Option.bind_some, arSame_eq (o.2.2.2 x (by simp [hi]))]; rfl
  · rw [if_neg hs, if_neg hs, copySame_eq ha]; rfl
theorem simple_shape {a : Arr} (h : simpleB a = true) : ∃ x, a = .mk [] [x] ∧ x.kind ≠ 3 := by
  cases a with
  | mk s i =>
    unfold simpleB at h
    simp only [sh_mk, it_mk, Bool.and_eq_true, List.isEmpty_iff] at h
    match i, h.2 with
    | [x], h2 => exact ⟨x, by rw [h.1], by simpa using h2⟩
theorem Open_eq {x : Itm} (hx : okI x) (hr : RightI x) : array_Open x = some (if x.kind = 3 then x.box.headD default else .mk [] [x]) := by
  unfold array_Open
  rw [rightItem_eq hx, Option.bind_some, decide_eq_true hr, if_pos rfl]
  by_cases k : x.kind = 3
  · rw [if_pos k, if_pos k]
    rcases rI_cases hr.1 with h | h | ⟨_, _, _, a, h, _⟩
    · omega
    · omega
    · rw [h, rd_0, Option.bind_some, copySame_eq (((okI_iff x).1 hx).2.2.2.2 a (by simp [h]))]; rfl
  · rw [if_neg k, if_neg k, arSame_eq hx]; rfl
end Go.FL
/-
  Plain laws of arrays, 4: Make.
-/
namespace Go.FL
open Go Go.Proofs

theorem idxI_loop {xs : List Itm} {f : FT_Itm__bool} {p : Itm → Bool} (hf : ∀ x ∈ xs, f.g x = some (p x)) (K : Int → Option Int) (hl : xs.length ≤ 17592186044416) : ∀ (n i k : Nat) (s : Int), n = xs.length - i → i ≤ xs.length → n < k →
    (slices_IndexFunc_api_Item_api_Item_l1 xs f K k s (i : Int) = K s ∧ (xs.drop i).any p = false) ∨ (∃ j : Nat, slices_IndexFunc_api_Item_api_Item_l1 xs f K k s (i : Int) = some (j : Int) ∧ (xs.drop i).any p = true)
  | _, _, 0, _, _, _, h => by omega
  | n, i, k + 1, s, hn, hi, hk => by
    rw [slices_IndexFunc_api_Item_api_Item_l1]
    by_cases h : i < xs.length
    · rw [if_pos (by omega), rd_get h, Option.bind_some, hf _ (List.getElem_mem h), Option.bind_some, List.drop_eq_getElem_cons h, List.any_cons]
      by_cases hp : p xs[i] = true
      · rw [if_pos hp, hp]; exact .inr ⟨i, rfl, rfl⟩
      · rw [if_neg hp, w64_nat (by omega)]
        have : p xs[i] = false := by simpa using hp
        rw [this, Bool.false_or]
        exact idxI_loop hf K hl (n - 1) (i + 1) k s (by omega) (by omega) (by omega)
    · rw [if_neg (by omega), List.drop_of_length_le (by omega)]; exact .inl ⟨rfl, rfl⟩
theorem containsFuncI {xs : List Itm} {f : FT_Itm__bool} {p : Itm → Bool} (hf : ∀ x ∈ xs, f.g x = some (p x)) (hl : xs.length ≤ 17592186044416) : slices_ContainsFunc_api_Item_api_Item xs f = some (xs.any p) := by
  unfold slices_ContainsFunc_api_Item_api_Item slices_IndexFunc_api_Item_api_Item
  rw [jn_ar]
  rcases idxI_loop hf (fun _ => some (-1)) hl xs.length 0 FUEL 0 rfl (Nat.zero_le _) (fuel_gt (by omega)) with ⟨h1, h2⟩ | ⟨j, h1, h2⟩
  · rw [show ((0 : Nat) : Int) = 0 from rfl] at h1
    rw [h1, Option.bind_some, List.drop_zero] at *
    rw [h2]; rfl
  · rw [show ((0 : Nat) : Int) = 0 from rfl] at h1
    rw [h1, Option.bind_some]
    rw [List.drop_zero] at h2
    rw [h2, decide_eq_true (by omega)]

/-- The cells of each. -/
def cellsOf (xs : List Itm) : List Int := xs.map fun x => ((1 + cI x : Nat) : Int)
theorem cells_box {x : Itm} (hx : okI x) (hr : RightI x) : ∀ a ∈ x.box, okAr a ∧ RightA a ∧ cI x = cA a ∧ x.box = [a] := fun a ha => by
  have oa := ((okI_iff x).1 hx).2.2.2.2 a ha
  rcases rI_cases hr.1 with ⟨_, _, _, h⟩ | ⟨_, _, _, h⟩ | ⟨_, _, _, b, h, h2, h3⟩
  · rw [h] at ha; cases ha
  · rw [h] at ha; cases ha
  · have hb := ha
    rw [h, List.mem_singleton] at hb
    subst hb
    have e1 : cI x = cA a := by rw [cI_eq, h]; simp [cBs]
    have e2 : dI x = dA a := by rw [dI_eq, h]; simp [dBs]
    exact ⟨oa, ⟨h3, e2 ▸ hr.2.1, e1 ▸ hr.2.2⟩, e1, h⟩
theorem make_l5 {x : Itm} (hx : okI x) (hr : RightI x) (K : Int → Option (Arr × Int)) : array_Make_l5 x K FUEL 1 0 = K ((1 + cI x : Nat) : Int) := by
  have hF : FUEL = 999999999999998 + 1 + 1 := rfl
  rw [hF, array_Make_l5]
  by_cases hb : x.box = []
  · rw [if_neg (by rw [hb]; decide)]
    have : cI x = 0 := by rw [cI_eq, hb]; rfl
    rw [this]; rfl
  · obtain ⟨a, ha⟩ := List.exists_mem_of_ne_nil _ hb
    obtain ⟨oa, ra, e1, e2⟩ := cells_box hx hr a ha
    have h16 := ra.2.2
    rw [e2, if_pos (by simp), rd_0, Option.bind_some, Cells_eq oa, Option.bind_some, if_pos ra, array_Make_l5, e2, if_neg (by rw [show w64 ((0 : Int) + 1) = 1 from rfl]; simp), w64_eq (by omega) (by omega), e1]
    congr 1
theorem make_l2 {xs : List Itm} (hx : ∀ x ∈ xs, okI x ∧ RightI x) (hl : xs.length ≤ 1466015503701) (K : List Int → Option (Arr × Int)) : ∀ (n i k : Nat) (t : List Int), n = xs.length - i → i ≤ xs.length → n < k → t.length = i →
    array_Make_l2 xs K k t (i : Int) = K (t ++ (cellsOf xs).drop i)
  | _, _, 0, _, _, _, h, _ => by omega
  | n, i, k + 1, t, hn, hi, hk, ht => by
    rw [array_Make_l2]
    have hcl : (cellsOf xs).length = xs.length := by simp [cellsOf]
    by_cases h : i < xs.length
    · obtain ⟨o, r⟩ := hx _ (List.getElem_mem h)
      have hd : (cellsOf xs)[i]'(by omega) = ((1 + cI xs[i] : Nat) : Int) := by simp [cellsOf]
      rw [if_pos (by omega), jn_ar, rd_get h, Option.bind_some, jn_ar, make_l5 o r, ap_eq (by simp; omega), Option.bind_some, w64_nat (by omega)]
      show array_Make_l2 xs K k (t ++ [((1 + cI xs[i] : Nat) : Int)]) ((i + 1 : Nat) : Int) = _
      rw [make_l2 hx hl K (n - 1) (i + 1) k _ (by omega) (by omega) (by omega) (by simp [ht]),
        List.drop_eq_getElem_cons (by omega : i < (cellsOf xs).length), hd, List.append_assoc]
      rfl
    · rw [if_neg (by omega), List.drop_of_length_le (by omega), List.append_nil]
/-- The first of the items, again and again. -/
def cyc (xs : List Itm) (n : Nat) : List Itm := (List.range n).map fun i => xs.getD (i % xs.length) default
theorem cyc_succ (xs : List Itm) (n : Nat) : cyc xs (n + 1) = cyc xs n ++ [xs.getD (n % xs.length) default] := by
  unfold cyc; rw [List.range_succ, List.map_append]; rfl
theorem cyc_length (xs : List Itm) (n : Nat) : (cyc xs n).length = n := by simp [cyc]
theorem cIs_app (xs ys : List Itm) : cIs (xs ++ ys) = cIs xs + cIs ys := by
  induction xs with
  | nil => simp [cIs]
  | cons x xs ih => simp only [List.cons_append, cIs, ih]; omega
theorem cyc_mem {xs : List Itm} (h : xs ≠ []) {n : Nat} {x : Itm} (hx : x ∈ cyc xs n) : x ∈ xs := by
  unfold cyc at hx
  obtain ⟨i, _, rfl⟩ := List.mem_map.1 hx
  have hp : 0 < xs.length := List.length_pos_iff.2 h
  have hlt := Nat.mod_lt i hp
  rw [List.getD_eq_getElem?_getD, List.getElem?_eq_getElem hlt]
  exact List.getElem_mem hlt
theorem cyc_le (xs : List Itm) {i n : Nat} (h : i ≤ n) : i + cIs (cyc xs i) ≤ n + cIs (cyc xs n) := by
  induction n with
  | zero => have : i = 0 := by omega
            subst this; exact Nat.le_refl _
  | succ n ih =>
    by_cases he : i = n + 1
    · subst he; exact Nat.le_refl _
    · have := ih (by omega)
      rw [cyc_succ, cIs_app]; omega
theorem make_l7 {xs : List Itm} (hx : ∀ x ∈ xs, okI x ∧ RightI x) (hne : xs ≠ []) (hl : xs.length ≤ 1466015503701) {m : Nat} (hm : m ≤ 4096) (x1 : Int × Int) (hx1 : x1.1 = (m : Int)) (K : Arr → Int → List Int → List Itm → Option (Arr × Int)) (a : Arr) (b : Int) (s : List Int) (t0 : List Itm) (ht0 : t0.length ≤ 1) : ∀ (n i k : Nat), n = m - i → i ≤ m → n < k → i + cIs (cyc xs i) ≤ 16384 →
    array_Make_l7 xs x1 (cellsOf xs) K k a b (i : Int) ((i + cIs (cyc xs i) : Nat) : Int) s (t0 ++ cyc xs i) = if m + cIs (cyc xs m) ≤ 16384 then K a b s (t0 ++ cyc xs m) else some (.mk [] [], 8)
  | _, _, 0, _, _, h, _ => by omega
  | n, i, k + 1, hn, hi, hk, hc => by
    rw [array_Make_l7]
    have hcl : (cellsOf xs).length = xs.length := by simp [cellsOf]
    have hp : 0 < xs.length := List.length_pos_iff.2 hne
    by_cases h : i < m
    · have hlt := Nat.mod_lt i hp
      have htm : Int.tmod (i : Int) ((xs.length : Nat) : Int) = ((i % xs.length : Nat) : Int) := by
        rw [Int.tmod_eq_emod_of_nonneg (by omega)]; rfl
      have hgr : grd? (((List.length xs : Nat) : Int) ≠ 0) = some () := if_pos (by omega)
      have hd : (cellsOf xs)[i % xs.length]'(by omega) = ((1 + cI xs[i % xs.length] : Nat) : Int) := by simp [cellsOf]
      obtain ⟨o, r⟩ := hx _ (List.getElem_mem hlt)
      have hg : xs.getD (i % xs.length) default = xs[i % xs.length] := by rw [List.getD_eq_getElem?_getD, List.getElem?_eq_getElem hlt]; rfl
      have hci : cI xs[i % xs.length] ≤ 16384 := r.2.2
      have hsum : cIs (cyc xs (i + 1)) = cIs (cyc xs i) + cI xs[i % xs.length] := by rw [cyc_succ, cIs_app, hg]; simp [cIs]
      rw [if_pos (by omega), hgr, Option.bind_some, htm, rd_get (by omega : i % xs.length < (cellsOf xs).length), Option.bind_some, hd, w64_eq (by omega) (by omega)]
      by_cases hbig : (16384 : Int) < ((i + cIs (cyc xs i) : Nat) : Int) + ((1 + cI xs[i % xs.length] : Nat) : Int)
      · rw [if_pos hbig, if_neg]
        have := cyc_le xs (show i + 1 ≤ m by omega)
        omega
      · have hlen := cyc_length xs i
        rw [if_neg hbig, Option.bind_some, rd_get hlt, Option.bind_some, arSame_eq o, Option.bind_some, ap_eq (by simp; omega), Option.bind_some, w64_nat (by omega)]
        have ih := make_l7 hx hne hl hm x1 hx1 K a b s t0 ht0 (n - 1) (i + 1) k (by omega) (by omega) (by omega) (by omega)
        rw [cyc_succ, hg] at ih
        rw [← ih, List.append_assoc]
        congr 1
        rw [cIs_app]; simp only [cIs]; omega
    · have : i = m := by omega
      subst this
      rw [if_neg (by omega), if_pos hc]
/-- The items that Make puts. -/
def mkItems (n : Int) (xs : List Itm) : List Itm := if n = 0 then [tyI (xs.headD default)] else cyc xs n.toNat
theorem Make_eq {s : List Int} {xs : List Itm} (hs : ∀ z ∈ s, -9223372036854775808 ≤ z ∧ z ≤ 9223372036854775807) (hl : s.length ≤ 17592186044416) (hxl : xs.length ≤ 1466015503701) (hx : ∀ x ∈ xs, okI x) :
    array_Make s xs = some (if (szP s).2 ≠ 0 then (.mk [] [], (szP s).2) else if xs = [] ∨ ¬ (∀ x ∈ xs, RightI x) then (.mk [] [], 22) else if RightA (.mk s (mkItems (szP s).1 xs)) then (.mk s (mkItems (szP s).1 xs), 0) else (.mk [] [], 8)) := by
  unfold array_Make
  rw [Size_eq hl, Option.bind_some]
  by_cases h0 : (szP s).2 = 0
  rotate_left
  · rw [if_neg h0, if_pos h0]
  have h0' : ¬ ((szP s).2 ≠ 0) := fun h => h h0
  rw [if_pos h0, if_neg h0']
  by_cases hn : xs = []
  · subst hn; rw [if_pos (show ((([] : List Itm).length : Nat) : Int) = 0 from rfl), if_pos (.inl rfl)]; rfl
  have hlen : ¬ ((xs.length : Nat) : Int) = 0 := by have := List.length_pos_iff.2 hn; omega
  rw [if_neg hlen, containsFuncI (p := fun x => !decide (RightI x)) (fun x hx' => by
    show array_Make_1 x = _
    unfold array_Make_1; rw [rightItem_eq (hx x hx'), Option.bind_some]) (by omega), Option.bind_some, Option.bind_some]
  by_cases hr : ∀ x ∈ xs, RightI x
  rotate_left
  · rw [if_pos (.inr hr : xs = [] ∨ ¬ ∀ x ∈ xs, RightI x), if_pos]
    rw [List.any_eq_true]
    simp only [Classical.not_forall] at hr
    obtain ⟨x, h1, h2⟩ := hr
    exact ⟨x, h1, by rw [decide_eq_false h2]; rfl⟩
  rw [if_neg (show ¬ (xs = [] ∨ ¬ ∀ x ∈ xs, RightI x) from fun h => h.elim hn fun h => h hr), if_neg (by
    intro h
    rw [List.any_eq_true] at h
    obtain ⟨x, h1, h2⟩ := h
    rw [decide_eq_true (hr x h1)] at h2; cases h2), clone_int hl, Option.bind_some, jn_ar]
  have hp : 0 < xs.length := List.length_pos_iff.2 hn
  have hxr : ∀ x ∈ xs, okI x ∧ RightI x := fun x h => ⟨hx x h, hr x h⟩
  obtain ⟨hz0, hz1⟩ := szP_le s
  obtain ⟨m, hm⟩ : ∃ m : Nat, (szP s).1 = (m : Int) := ⟨(szP s).1.toNat, by omega⟩
  have hgo : ∀ t0 : List Itm, t0.length ≤ 1 → t0 ++ cyc xs m = mkItems (szP s).1 xs → (∀ x ∈ mkItems (szP s).1 xs, okI x) → m + cIs (cyc xs m) ≤ cA (.mk s (mkItems (szP s).1 xs)) →
      array_Make_l2 xs (fun z8 => jn (fun z19 z20 z21 z22 => (array_Right (Arr.mk z21 z22)).bind fun x35 => if x35 = true then some (Arr.mk z21 z22, 0) else some (Arr.mk [] [], 8)) fun K6 => array_Make_l7 xs (szP s) z8 K6 FUEL (Arr.mk [] []) 0 0 0 s t0) FUEL [] 0 = some (if RightA (.mk s (mkItems (szP s).1 xs)) then (.mk s (mkItems (szP s).1 xs), 0) else (.mk [] [], 8)) := by
    intro t0 ht0 he hok hca
    have e2 := make_l2 hxr hxl (fun z8 => jn (fun z19 z20 z21 z22 => (array_Right (Arr.mk z21 z22)).bind fun x35 => if x35 = true then some (Arr.mk z21 z22, 0) else some (Arr.mk [] [], 8)) fun K6 => array_Make_l7 xs (szP s) z8 K6 FUEL (Arr.mk [] []) 0 0 0 s t0) xs.length 0 FUEL [] rfl (Nat.zero_le _) (fuel_gt (by omega)) rfl
    rw [show ((0 : Nat) : Int) = 0 from rfl] at e2
    rw [e2, List.nil_append, List.drop_zero]
    show jn _ _ = _
    rw [jn_ar]
    have e7 := make_l7 hxr hn hxl (show m ≤ 4096 by omega) (szP s) hm (fun z19 z20 z21 z22 => (array_Right (Arr.mk z21 z22)).bind fun x35 => if x35 = true then some (Arr.mk z21 z22, 0) else some (Arr.mk [] [], 8)) (Arr.mk [] []) 0 s t0 ht0 m 0 FUEL rfl (Nat.zero_le _) (fuel_gt (by omega)) (by show 0 + 0 ≤ _; omega)
    rw [show cyc xs 0 = [] from rfl, List.append_nil, show ((0 : Nat) : Int) = 0 from rfl] at e7
    rw [show (((0 + cIs [] : Nat)) : Int) = 0 from rfl] at e7
    rw [e7, he]
    have hit : (mkItems (szP s).1 xs).length ≤ 1466015503701 := by
      rw [← he, List.length_append, cyc_length]; omega
    have ho : okAr (.mk s (mkItems (szP s).1 xs)) := by
      rw [okAr_iff]; exact ⟨hs, hl, hit, hok⟩
    rw [Right_eq ho]
    by_cases hR : RightA (.mk s (mkItems (szP s).1 xs))
    · rw [if_pos (Nat.le_trans hca hR.2.2), if_pos hR, decide_eq_true hR]; rfl
    · rw [if_neg hR, decide_eq_false hR]; split <;> rfl
  by_cases hz : (szP s).1 = 0
  · have hm0 : m = 0 := by omega
    subst hm0
    obtain ⟨y, ys, rfl⟩ := List.exists_cons_of_ne_nil hn
    have hmk : mkItems (szP s).1 (y :: ys) = [tyI y] := by unfold mkItems; rw [if_pos hz]; rfl
    obtain ⟨o, r⟩ := hxr y (by simp)
    rw [if_pos hz, rd_0, Option.bind_some, typed_eq o r.1, Option.bind_some]
    show jn _ _ = _
    rw [jn_ar]
    refine hgo [tyI y] (by simp) (by rw [hmk]; rfl) ?_ ?_
    · rw [hmk]; intro x hx'; rw [List.mem_singleton] at hx'; subst hx'; exact (tyI_ok o r.1).2.2.2.2.2
    · show 0 + 0 ≤ _; omega
  · have hmk : mkItems (szP s).1 xs = cyc xs m := by unfold mkItems; rw [if_neg hz, hm]; rfl
    rw [if_neg hz]
    show jn _ _ = _
    rw [jn_ar]
    refine hgo [] (by simp) (by rw [hmk]; rfl) ?_ ?_
    · rw [hmk]; intro x hx'; exact hx x (cyc_mem hn hx')
    · rw [hmk, cA_eq, it_mk, cyc_length]; omega
end Go.FL
/-
  Plain laws of arrays, 5: numbers, characters, vectors; what must be whatever is asked.
-/
namespace Go.FL
open Go Go.Proofs

def in64 (z : Int) : Prop := -9223372036854775808 ≤ z ∧ z ≤ 9223372036854775807
def numI (z : Int) : Itm := .mk 1 (ofQ (z : Rat)) 0 []
def charI (c : Int) : Itm := .mk 2 (false, [], []) c []
theorem fits_in64 {z : Int} (h : in64 z) : fits (z : Rat) := fits_int h.1 (by have := h.2; omega)
theorem numI_ok {z : Int} (h : in64 z) : okI (numI z) := okI_num (ofQ_okRB (fits_in64 h))
theorem numI_right {z : Int} (h : in64 z) : rI (numI z) = true := rI_num (ofQ_right (fits_in64 h))
theorem in64_zero : in64 0 := by unfold in64; omega
theorem intItem {z : Int} (h : in64 z) {β : Type} (f : Itm → Option β) : ((ratOfInt z).bind fun q => (array_number q).bind f) = f (numI z) := by
  rw [ofInt_q h.1 h.2, Option.bind_some, number_item (ofQ_okRB (fits_in64 h)), Option.bind_some]; rfl
theorem intItems_eq : ∀ {l : List Int}, (∀ z ∈ l, in64 z) → intItems l = some (l.map numI)
  | [], _ => rfl
  | z :: zs, h => by
    rw [intItems, intItem (h z (by simp)), intItems_eq fun y hy => h y (by simp [hy]), Option.bind_some]; rfl
theorem arInts_eq {l : List Int} (h : ∀ z ∈ l, in64 z) (hl : l.length ≤ 9223372036854775806) : arInts l = some (vecOf (numI 0) (l.map numI)) := by
  unfold arInts
  rw [if_pos hl, intItems_eq h, Option.bind_some, intItem in64_zero]
theorem Int_eq {z : Int} (h : in64 z) : array_Int z = some (.mk [] [numI z]) := by
  unfold array_Int; rw [intItem h]; rfl
theorem charItems_eq : ∀ {l : List Int}, charItems l = some (l.map charI)
  | [] => rfl
  | z :: zs => by rw [charItems, charItems_eq]; rfl
theorem arText_eq (s : ByteArray) : arText s = some (vecOf (charI 32) ((runesOf s).map charI)) := by
  unfold arText; rw [charItems_eq]; rfl
theorem rune_right (s : ByteArray) (pos : Nat) : chB (rune s pos) = true := by
  have hb : ∀ k, (s.get! (pos + k)).toNat < 256 := fun k => (s.get! (pos + k)).toNat_lt
  have h0 := hb 0; have h1 := hb 1; have h2 := hb 2; have h3 := hb 3
  unfold chB rune
  simp only [Utf8.decode]
  repeat' split
  all_goals simp_all [Utf8.runeError, Utf8.valid]
  all_goals omega
theorem runesR_right (s : ByteArray) : ∀ (k pos : Nat), ∀ c ∈ runesR s k pos, chB c = true
  | 0, _, c, h => by simp [runesR] at h
  | k + 1, pos, c, h => by
    rw [runesR] at h
    split at h
    · rcases List.mem_cons.1 h with h | h
      · rw [h]; exact rune_right s pos
      · exact runesR_right s k _ c h
    · cases h
theorem szP_one {n : Nat} (h : n ≤ 4096) : szP [(n : Int)] = ((n : Int), 0) := by
  unfold szP prodZ
  simp only [List.length_cons, List.length_nil, List.any_cons, List.any_nil, Bool.or_false, decide_eq_true_eq, List.foldl_cons, List.foldl_nil, List.mem_singleton, Int.one_mul]
  rw [if_neg (by omega), if_neg (by omega), if_neg (by omega)]
  by_cases h0 : (0 : Int) = n
  · rw [if_pos h0, ← h0]
  · rw [if_neg h0, if_pos (by omega)]
theorem szP_nil : szP [] = (1, 0) := rfl
/-- Flat arrays. -/
theorem flat_right {s : List Int} {i : List Itm} {n : Int} (hs : szP s = (n, 0)) (hl : (i.length : Int) = if n < 1 then 1 else n) (hi : ∀ x ∈ i, rI x = true ∧ x.box = []) : RightA (.mk s i) ∧ cA (.mk s i) = i.length ∧ dA (.mk s i) = if simpleB (.mk s i) then 0 else 1 := by
  have hn := szP_le s
  rw [hs] at hn
  have hc : cIs i = 0 := by
    clear hl
    induction i with
    | nil => rfl
    | cons x xs ih => rw [cIs, cI_eq, (hi x (by simp)).2, ih fun y hy => hi y (by simp [hy])]; rfl
  have hd : dIs i = 0 := by
    clear hl hc
    induction i with
    | nil => rfl
    | cons x xs ih => rw [dIs, dI_eq, (hi x (by simp)).2, ih fun y hy => hi y (by simp [hy])]; rfl
  have hcA : cA (.mk s i) = i.length := by rw [cA_eq, it_mk, hc]; rfl
  have hdA : dA (.mk s i) = if simpleB (.mk s i) then 0 else 1 := by rw [dA_eq, it_mk, hd]
  refine ⟨⟨?_, ?_, ?_⟩, hcA, hdA⟩
  · rw [rA_eq, sh_mk, it_mk, hs, hl, decide_eq_true rfl, decide_eq_true rfl, rIs_mem.2 fun x hx => (hi x hx).1]; rfl
  · rw [hdA]; split <;> omega
  · rw [hcA]; have : (i.length : Int) ≤ 4096 := by rw [hl]; split <;> omega
    omega
theorem vec_parts {p : Itm} {xs : List Itm} (hp : rI p = true ∧ p.box = []) (hx : ∀ x ∈ xs, rI x = true ∧ x.box = []) : RightA (vecOf p xs) ∧ (okI p → (∀ x ∈ xs, okI x) → okAr (vecOf p xs)) ∧ szP (vecOf p xs).shape = (((min xs.length 4096 : Nat) : Int), 0) := by
  have hs : szP [((min xs.length 4096 : Nat) : Int)] = (((min xs.length 4096 : Nat) : Int), 0) := szP_one (Nat.min_le_right _ _)
  have hmem : ∀ {P : Itm → Prop}, P p → (∀ x ∈ xs, P x) → ∀ x ∈ (if xs.length = 0 then [p] else xs.take 4096), P x := by
    intro P h1 h2 x hx
    split at hx
    · rw [List.mem_singleton] at hx; rw [hx]; exact h1
    · exact h2 x (List.mem_of_mem_take hx)
  have hlen : ((if xs.length = 0 then [p] else xs.take 4096).length : Int) = if ((min xs.length 4096 : Nat) : Int) < 1 then 1 else ((min xs.length 4096 : Nat) : Int) := by
    split
    · rename_i h0; rw [h0]; rfl
    · rename_i h0
      rw [if_neg (by omega), List.length_take]; omega
  refine ⟨(flat_right hs hlen (hmem hp hx)).1, fun h1 h2 => ?_, hs⟩
  unfold vecOf
  rw [okAr_iff, sh_mk, it_mk]
  refine ⟨?_, by simp, ?_, hmem h1 h2⟩
  · intro z hz; rw [List.mem_singleton] at hz; subst hz; omega
  · have : ((if xs.length = 0 then [p] else xs.take 4096).length : Int) ≤ 4096 := by rw [hlen]; split <;> omega
    omega
theorem numsR {l : List Int} (h : ∀ z ∈ l, in64 z) : ∀ x ∈ l.map numI, rI x = true ∧ x.box = [] := fun x hx => by
  obtain ⟨z, hz, rfl⟩ := List.mem_map.1 hx
  exact ⟨numI_right (h z hz), rfl⟩
theorem numsO {l : List Int} (h : ∀ z ∈ l, in64 z) : ∀ x ∈ l.map numI, okI x := fun x hx => by
  obtain ⟨z, hz, rfl⟩ := List.mem_map.1 hx
  exact numI_ok (h z hz)
/-- The vector of numbers. -/
def vecZ (l : List Int) : Arr := vecOf (numI 0) (l.map numI)
theorem vecZ_right {l : List Int} (h : ∀ z ∈ l, in64 z) : RightA (vecZ l) := (vec_parts ⟨numI_right in64_zero, rfl⟩ (numsR h)).1
theorem vecZ_ok {l : List Int} (h : ∀ z ∈ l, in64 z) : okAr (vecZ l) := (vec_parts ⟨numI_right in64_zero, rfl⟩ (numsR h)).2.1 (numI_ok in64_zero) (numsO h)
theorem vecZ_items {l : List Int} (h : ∀ z ∈ l, in64 z) : array_Items (vecZ l) = some ((l.take 4096).map numI) := by
  obtain ⟨h1, h2, h3⟩ := vec_parts ⟨numI_right in64_zero, rfl⟩ (numsR h)
  rw [Items_eq (vecZ_ok h)]
  show some (if (szP (vecOf (numI 0) (l.map numI)).shape).1 = 0 ∨ ¬ RightA (vecZ l) then [] else (vecZ l).items) = _
  rw [h3]
  cases l with
  | nil => rw [if_pos (.inl rfl)]; rfl
  | cons z zs =>
    rw [if_neg]
    · unfold vecZ vecOf; rw [it_mk, if_neg (by simp), List.map_take]
    · rintro (q | q)
      · simp only [List.length_map, List.length_cons] at q; omega
      · exact q (vecZ_right h)
theorem ratToInt_z {z : Int} (h : in64 z) : ratToInt (ofQ (z : Rat)) = some (z, true) := by
  unfold ratToInt
  have e : (ofQ (z : Rat)).2.1 = digs z.natAbs := rfl
  have e1 : (ofQ (z : Rat)).1 = decide (z < 0) := rfl
  have hw : okL 1048576 (digs z.natAbs) = true := okL_digs (Nat.le_trans (show (digs z.natAbs).length ≤ 32 from (fits_in64 h).1) (by decide))
  have hb : bitsN z.natAbs ≤ 64 := bitsN_iff.2 (by have := h.1; have := h.2; omega)
  rw [isInt_q (fits_in64 h), Option.bind_some, if_pos (decide_eq_true (Rat.den_intCast z)), e, e1, val_digs, if_pos (by rw [hw, decide_eq_true rfl]; rfl), if_pos hb]
  unfold intV
  obtain ⟨h1, h2⟩ := h
  by_cases hz : z < 0
  · rw [if_pos (decide_eq_true hz), if_pos (by omega)]
    congr 2; omega
  · rw [if_neg (by rw [decide_eq_false hz]; decide), if_pos (by omega)]
    congr 2; omega
theorem allS_nums : ∀ {l : List Int} {s : List Int}, (∀ z ∈ l, in64 z) → s.length + l.length ≤ 17592186044416 → allS toIntS (l.map numI) s = some (true, s ++ l)
  | [], s, _, _ => by simp [allS]
  | z :: zs, s, h, hl => by
    rw [List.map_cons, allS]
    unfold toIntS
    have e : (numI z).num = ofQ (z : Rat) := rfl
    rw [e, ratToInt_z (h z (by simp)), Option.bind_some, ap_eq (by simp at hl ⊢; omega), Option.bind_some, Option.bind_some]
    have hk : (true && decide ((numI z).kind = 1)) = true := rfl
    rw [hk, if_pos rfl]
    have := allS_nums (l := zs) (s := s ++ [z]) (fun y hy => h y (by simp [hy])) (by simp at hl ⊢; omega)
    unfold toIntS at this
    rw [this, List.append_assoc]; rfl
theorem arToInts_vecZ {l : List Int} (h : ∀ z ∈ l, in64 z) : arToInts (vecZ l) = some (l.take 4096, true) := by
  have ht : (l.take 4096).length ≤ 4096 := by rw [List.length_take]; omega
  unfold arToInts allP
  rw [Right_eq (vecZ_ok h), Option.bind_some, decide_eq_true (vecZ_right h), if_pos rfl, if_pos (show (((vecZ l).shape.length : Nat) : Int) ≤ 1 by unfold vecZ vecOf; rw [sh_mk]; simp), vecZ_items h, Option.bind_some, if_pos (by rw [List.length_map]; omega),
    allS_nums (fun z hz => h z (List.mem_of_mem_take hz)) (by simp only [List.length_nil]; omega)]
  rfl
/-- A simple array. -/
theorem simple_right {x : Itm} (h : rI x = true) (hb : x.box = []) (hk : x.kind ≠ 3) : RightA (.mk [] [x]) ∧ simpleB (.mk [] [x]) = true := by
  refine ⟨(flat_right szP_nil rfl fun y hy => by rw [List.mem_singleton] at hy; subst hy; exact ⟨h, hb⟩).1, ?_⟩
  unfold simpleB; simp [sh_mk, it_mk, hk]
theorem one_ok {x : Itm} (h : okI x) : okAr (.mk [] [x]) := by
  rw [okAr_iff, sh_mk, it_mk]
  exact ⟨nofun, by simp, by simp, fun y hy => by rw [List.mem_singleton] at hy; rw [hy]; exact h⟩
theorem ToInt_z {z : Int} (h : in64 z) : array_ToInt (.mk [] [numI z]) = some (z, true) := by
  unfold array_ToInt
  have hr := (simple_right (numI_right h) rfl (show (1 : Int) ≠ 3 by decide)).1
  rw [Items_eq (one_ok (numI_ok h)), sh_mk, szP_nil, if_neg (by rintro (q | q); exact absurd q (by decide); exact q hr), it_mk, Option.bind_some, if_pos (by simp), rd_0, Option.bind_some]
  have e : (numI z).num = ofQ (z : Rat) := rfl
  have hk : (!decide ((numI z).kind = 1)) = false := rfl
  rw [hk, Option.bind_some, if_neg (by decide), Option.bind_some, e, ratToInt_z h]; rfl
theorem live3 : law03_live = some true := by
  unfold law03_live
  have h3 : ∀ z ∈ [(1 : Int), 2, 3], in64 z := by intro z hz; simp at hz; unfold in64; omega
  have hO := numsO h3
  have hR := numsR h3
  have hit : (List.take 4096 [(1 : Int), 2, 3]).map numI = [numI 1, numI 2, numI 3] := rfl
  have hm : [(1 : Int), 2, 3].map numI = [numI 1, numI 2, numI 3] := rfl
  rw [hm] at hO hR
  have hs : szP [2, 2] = (4, 0) := by decide
  have h4 : ∀ x ∈ [numI 1, numI 2, numI 3, numI 1], x ∈ [numI 1, numI 2, numI 3] := by
    intro x hx
    simp only [List.mem_cons, List.not_mem_nil, or_false] at hx ⊢
    rcases hx with h | h | h | h
    · exact .inl h
    · exact .inr (.inl h)
    · exact .inr (.inr h)
    · exact .inl h
  have hmk : mkItems 4 [numI 1, numI 2, numI 3] = [numI 1, numI 2, numI 3, numI 1] := rfl
  have hfl := flat_right (s := [2, 2]) (i := [numI 1, numI 2, numI 3, numI 1]) hs rfl (by
    intro x hx
    exact hR x (h4 x hx))
  have hok : okAr (.mk [2, 2] [numI 1, numI 2, numI 3, numI 1]) := by
    rw [okAr_iff, sh_mk, it_mk]
    exact ⟨by intro z hz; simp at hz; omega, by simp, by simp, fun x hx => hO x (h4 x hx)⟩
  have hri : ∀ x ∈ [numI 1, numI 2, numI 3], RightI x := fun x hx => by
    obtain ⟨h1, h2⟩ := hR x hx
    exact ⟨h1, by rw [dI_eq, h2]; simp [dBs], by rw [cI_eq, h2]; simp [cBs]⟩
  have hmake : array_Make [2, 2] [numI 1, numI 2, numI 3] = some (.mk [2, 2] [numI 1, numI 2, numI 3, numI 1], 0) := by
    rw [Make_eq (by intro z hz; simp at hz; omega) (by simp) (by simp) hO, hs, if_neg (by decide), if_neg (by rintro (q | q); exact absurd q (by simp); exact q hri), hmk, if_pos hfl.1]
  have h7 : in64 7 := by unfold in64; omega
  have hns : simpleB (.mk [2, 2] [numI 1, numI 2, numI 3, numI 1]) = false := rfl
  have hd1 : dA (.mk [2, 2] [numI 1, numI 2, numI 3, numI 1]) = 1 := by rw [hfl.2.2, hns]; rfl
  have hc4 : cA (.mk [2, 2] [numI 1, numI 2, numI 3, numI 1]) = 4 := hfl.2.1
  rw [arInts_eq h3 (by simp), Option.bind_some]
  show (array_Items (vecZ [1, 2, 3])).bind _ = _
  rw [vecZ_items h3, hit, Option.bind_some, hmake, Option.bind_some, Int_eq h7, Option.bind_some, ToInt_z h7, Option.bind_some, if_pos rfl, Right_eq hok, Option.bind_some, decide_eq_true hfl.1, if_pos rfl,
    if_pos (show (((Arr.mk [2, 2] [numI 1, numI 2, numI 3, numI 1]).items.length : Nat) : Int) = 4 from rfl), Depth_eq hok, Option.bind_some, if_pos hfl.1, hd1, if_pos (show ((1 : Nat) : Int) = 1 from rfl), Cells_eq hok, Option.bind_some, if_pos hfl.1, hc4, if_pos (show ((4 : Nat) : Int) = 4 from rfl), if_pos rfl]
  rfl
end Go.FL
