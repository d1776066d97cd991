/-
  Part 4 of the base of the proofs: a logic of our own over the calculus, the contracts of the functions
-/
import Derived.Test.YtcoofpnbnifbbaaArC
set_option linter.unusedVariables false
/-
  GP: the types of arrays, and facts of them.
-/
namespace Go.FL
open Go Go.Proofs

mutual
/-- An item of an array. -/
inductive Itm where
  | mk (kind : Int) (num : RT) (char : Int) (box : List Arr)
/-- An array. -/
inductive Arr where
  | mk (shape : List Int) (items : List Itm)
end
instance : Inhabited Itm := ⟨.mk 0 (false, [], []) 0 []⟩
instance : Inhabited Arr := ⟨.mk [] []⟩
def Itm.kind : Itm → Int | .mk k _ _ _ => k
def Itm.num : Itm → RT | .mk _ n _ _ => n
def Itm.char : Itm → Int | .mk _ _ c _ => c
def Itm.box : Itm → List Arr | .mk _ _ _ b => b
def Arr.shape : Arr → List Int | .mk s _ => s
def Arr.items : Arr → List Itm | .mk _ i => i
theorem Itm.eta (x : Itm) : Itm.mk x.kind x.num x.char x.box = x := by cases x; rfl
theorem Arr.eta (x : Arr) : Arr.mk x.shape x.items = x := by cases x; rfl
mutual
/-- How many parts there are. -/
def Itm.size : Itm → Nat
  | .mk _ _ _ b => arsSize b + 1
def Arr.size : Arr → Nat
  | .mk _ i => itsSize i + 1
def itsSize : List Itm → Nat
  | [] => 0
  | x :: xs => x.size + itsSize xs
def arsSize : List Arr → Nat
  | [] => 0
  | x :: xs => x.size + arsSize xs
end
def Is (xs : List Int) : List DV := xs.map (.i .i64)
mutual
def Itm.dv : Itm → DV
  | .mk k n c b => .ag [.i .u8 k, .b n.1, .sl (L n.2.1), .sl (L n.2.2), .i .i32 c, .sl (Ars b)]
def Arr.dv : Arr → DV
  | .mk s i => .ag [.sl (Is s), .sl (Its i)]
def Its : List Itm → List DV
  | [] => []
  | x :: xs => x.dv :: Its xs
def Ars : List Arr → List DV
  | [] => []
  | x :: xs => x.dv :: Ars xs
end
theorem Itm.dv_eq (x : Itm) : x.dv = .ag [.i .u8 x.kind, .b x.num.1, .sl (L x.num.2.1), .sl (L x.num.2.2), .i .i32 x.char, .sl (Ars x.box)] := by cases x; simp only [Itm.dv]; rfl
theorem Arr.dv_eq (x : Arr) : x.dv = .ag [.sl (Is x.shape), .sl (Its x.items)] := by cases x; simp only [Arr.dv]; rfl
theorem Its_map (xs : List Itm) : Its xs = xs.map Itm.dv := by induction xs with
  | nil => simp [Its]
  | cons x xs ih => simp [Its, ih]
theorem Ars_map (xs : List Arr) : Ars xs = xs.map Arr.dv := by induction xs with
  | nil => simp [Ars]
  | cons x xs ih => simp [Ars, ih]
theorem Is_length (xs : List Int) : (Is xs).length = xs.length := by simp [Is]
theorem Is_at {xs : List Int} {i : Nat} {x : Int} (h : xs[i]? = some x) : (Is xs)[i]? = some (.i .i64 x) := by simp [Is, h]
theorem Is_sz1 (xs : List Int) : ∀ x ∈ Is xs, x.cells.length = 1 := fun x hx => by
  simp only [Is, List.mem_map] at hx
  obtain ⟨n, _, rfl⟩ := hx; rfl
theorem Is_sz (xs : List Int) : ∃ sz, ∀ x ∈ Is xs, x.cells.length = sz := ⟨1, Is_sz1 xs⟩
theorem Is_app (xs ys : List Int) : Is (xs ++ ys) = Is xs ++ Is ys := by simp [Is]
theorem Is_flat (xs : List Int) : ∀ d ∈ Is xs, d.flat = true ∧ d.cells.length = 1 := fun x hx => by
  simp only [Is, List.mem_map] at hx
  obtain ⟨n, _, rfl⟩ := hx
  exact ⟨by simp [DV.flat, DV.cells, DV.leaf], rfl⟩
theorem Its_length (xs : List Itm) : (Its xs).length = xs.length := by simp [Its_map]
theorem Its_at {xs : List Itm} {i : Nat} {x : Itm} (h : xs[i]? = some x) : (Its xs)[i]? = some (.ag [.i .u8 x.kind, .b x.num.1, .sl (L x.num.2.1), .sl (L x.num.2.2), .i .i32 x.char, .sl (Ars x.box)]) := by rw [Its_map, List.getElem?_map, h, Option.map_some, Itm.dv_eq]
theorem Its_sz1 (xs : List Itm) : ∀ x ∈ Its xs, x.cells.length = 6 := fun x hx => by
  rw [Its_map, List.mem_map] at hx
  obtain ⟨n, _, rfl⟩ := hx; rw [Itm.dv_eq]; rfl
theorem Its_sz (xs : List Itm) : ∃ sz, ∀ x ∈ Its xs, x.cells.length = sz := ⟨6, Its_sz1 xs⟩
theorem Its_app (xs ys : List Itm) : Its (xs ++ ys) = Its xs ++ Its ys := by simp [Its_map]
theorem Its_flat (xs : List Itm) : ∀ d ∈ Its xs, d.flat = true ∧ d.cells.length = 6 := fun x hx => by
  rw [Its_map, List.mem_map] at hx
  obtain ⟨n, _, rfl⟩ := hx
  rw [Itm.dv_eq]
  exact ⟨by simp [DV.flat, DV.cells, DV.leaf], rfl⟩
theorem Its_bs1 (x : Itm) : Its [x] = [.ag [.i .u8 x.kind, .b x.num.1, .sl (L x.num.2.1), .sl (L x.num.2.2), .i .i32 x.char, .sl (Ars x.box)]] := by simp [Its_map, Itm.dv_eq]
theorem Ars_length (xs : List Arr) : (Ars xs).length = xs.length := by simp [Ars_map]
theorem Ars_at {xs : List Arr} {i : Nat} {x : Arr} (h : xs[i]? = some x) : (Ars xs)[i]? = some (.ag [.sl (Is x.shape), .sl (Its x.items)]) := by rw [Ars_map, List.getElem?_map, h, Option.map_some, Arr.dv_eq]
theorem Ars_sz1 (xs : List Arr) : ∀ x ∈ Ars xs, x.cells.length = 2 := fun x hx => by
  rw [Ars_map, List.mem_map] at hx
  obtain ⟨n, _, rfl⟩ := hx; rw [Arr.dv_eq]; rfl
theorem Ars_sz (xs : List Arr) : ∃ sz, ∀ x ∈ Ars xs, x.cells.length = sz := ⟨2, Ars_sz1 xs⟩
theorem Ars_app (xs ys : List Arr) : Ars (xs ++ ys) = Ars xs ++ Ars ys := by simp [Ars_map]
theorem Ars_flat (xs : List Arr) : ∀ d ∈ Ars xs, d.flat = true ∧ d.cells.length = 2 := fun x hx => by
  rw [Ars_map, List.mem_map] at hx
  obtain ⟨n, _, rfl⟩ := hx
  rw [Arr.dv_eq]
  exact ⟨by simp [DV.flat, DV.cells, DV.leaf], rfl⟩
theorem Ars_bs1 (x : Arr) : Ars [x] = [.ag [.sl (Is x.shape), .sl (Its x.items)]] := by simp [Ars_map, Arr.dv_eq]
theorem ga_ItemKind : aggT Try.prog 32 = some false := by kernel_rfl
theorem gz_Itm : szOf Try.prog 38 = 6 := by kernel_rfl
theorem gA_Itm : aggT Try.prog 38 = some true := by kernel_rfl
theorem gS_Itm : szOf Try.prog 38 = 6 := by kernel_rfl
theorem gF_Itm_0 : fieldT Try.prog 38 0 = some (0, 1) := by kernel_rfl
theorem gF_Itm_1 : fieldT Try.prog 38 1 = some (1, 3) := by kernel_rfl
theorem gF_Itm_2 : fieldT Try.prog 38 2 = some (4, 1) := by kernel_rfl
theorem gF_Itm_3 : fieldT Try.prog 38 3 = some (5, 1) := by kernel_rfl
theorem gP_Itm : structT Try.prog 38 = some [(0, 1), (1, 3), (4, 1), (5, 1)] := by kernel_rfl
theorem gI_Itm : (Try.prog.info? 38).bind (·.zero) = some (.agg #[.int .u8 0, .bool false, .slice none 0 0, .slice none 0 0, .int .i32 0, .slice none 0 0]) := by kernel_rfl
theorem gZA_Itm (w : World) (I : Nat → Prop) (μ : List Nat) : ARepAll Try.prog w I μ [.d (.i .u8 0), .d (.b false), .nl, .nl, .d (.i .i32 0), .nl] (Value.agg #[.int .u8 0, .bool false, .slice none 0 0, .slice none 0 0, .int .i32 0, .slice none 0 0]).cells.toList [] := ARepAll.cons (b1 := []) (b2 := []) (.d (.i _ _)) (ARepAll.cons (b1 := []) (b2 := []) (.d (.b _)) (ARepAll.cons (b1 := []) (b2 := []) (.nl) (ARepAll.cons (b1 := []) (b2 := []) (.nl) (ARepAll.cons (b1 := []) (b2 := []) (.d (.i _ _)) (ARepAll.cons (b1 := []) (b2 := []) (.nl) (.nil))))))
theorem gZ_Itm (w : World) (I : Nat → Prop) : RepAll w I [.i .u8 0, .b false, .sl [], .sl [], .i .i32 0, .sl []] (Value.agg #[.int .u8 0, .bool false, .slice none 0 0, .slice none 0 0, .int .i32 0, .slice none 0 0]).cells.toList := .cons (.i _ _) (.cons (.b _) (.cons (.sl0 _ _) (.cons (.sl0 _ _) (.cons (.i _ _) (.cons (.sl0 _ _) (.nil))))))
theorem gz_Arr : szOf Try.prog 25 = 2 := by kernel_rfl
theorem gA_Arr : aggT Try.prog 25 = some true := by kernel_rfl
theorem gS_Arr : szOf Try.prog 25 = 2 := by kernel_rfl
theorem gG_Arr_1 : fagT Try.prog 25 1 = some false := by kernel_rfl
theorem gF_Arr_0 : fieldT Try.prog 25 0 = some (0, 1) := by kernel_rfl
theorem gF_Arr_1 : fieldT Try.prog 25 1 = some (1, 1) := by kernel_rfl
theorem gP_Arr : structT Try.prog 25 = some [(0, 1), (1, 1)] := by kernel_rfl
theorem gI_Arr : (Try.prog.info? 25).bind (·.zero) = some (.agg #[.slice none 0 0, .slice none 0 0]) := by kernel_rfl
theorem gZA_Arr (w : World) (I : Nat → Prop) (μ : List Nat) : ARepAll Try.prog w I μ [.nl, .nl] (Value.agg #[.slice none 0 0, .slice none 0 0]).cells.toList [] := ARepAll.cons (b1 := []) (b2 := []) (.nl) (ARepAll.cons (b1 := []) (b2 := []) (.nl) (.nil))
theorem gZ_Arr (w : World) (I : Nat → Prop) : RepAll w I [.sl [], .sl []] (Value.agg #[.slice none 0 0, .slice none 0 0]).cells.toList := .cons (.sl0 _ _) (.cons (.sl0 _ _) (.nil))
theorem gA_Ex : aggT Try.prog 82 = some true := by kernel_rfl
theorem gS_Ex : szOf Try.prog 82 = 2 := by kernel_rfl
theorem gF_Ex_0 : fieldT Try.prog 82 0 = some (0, 1) := by kernel_rfl
theorem gF_Ex_1 : fieldT Try.prog 82 1 = some (1, 1) := by kernel_rfl
theorem gP_Ex : structT Try.prog 82 = some [(0, 1), (1, 1)] := by kernel_rfl
theorem gI_Ex : (Try.prog.info? 82).bind (·.zero) = some (.agg #[.int .i64 0, .int .i64 0]) := by kernel_rfl
theorem gZA_Ex (w : World) (I : Nat → Prop) (μ : List Nat) : ARepAll Try.prog w I μ [.d (.i .i64 0), .d (.i .i64 0)] (Value.agg #[.int .i64 0, .int .i64 0]).cells.toList [] := ARepAll.cons (b1 := []) (b2 := []) (.d (.i _ _)) (ARepAll.cons (b1 := []) (b2 := []) (.d (.i _ _)) (.nil))
theorem gZ_Ex (w : World) (I : Nat → Prop) : RepAll w I [.i .i64 0, .i .i64 0] (Value.agg #[.int .i64 0, .int .i64 0]).cells.toList := .cons (.i _ _) (.cons (.i _ _) (.nil))
theorem ga_Is : aggT Try.prog 22 = some false := by kernel_rfl
theorem gz_Is : szOf Try.prog 22 = 1 := by kernel_rfl
theorem gI_Is : (Try.prog.info? 22).bind (·.zero) = some (.slice none 0 0) := by kernel_rfl
theorem gZA_Is (w : World) (I : Nat → Prop) (μ : List Nat) : ARepAll Try.prog w I μ [.nl] (Value.cells (.slice none 0 0)).toList [] := ARepAll.cons (b1 := []) (b2 := []) (.nl) .nil
theorem gs_Is : sliceT Try.prog 22 = some (3, 1, 8) := by kernel_rfl
theorem ge_Is : elemT Try.prog 22 = some (3, 1, 8, .int .i64 0) := by kernel_rfl
theorem gu_Is : Try.prog.underlying 22 = some (.slice (Try.prog.elem 22)) := by kernel_rfl
theorem gB_Is : (17592186044416 : Nat) * 8 ≤ 140737488355328 ∧ (17592186044416 : Nat) ≤ 9223372036854775807 := by decide
theorem ga_Its : aggT Try.prog 23 = some false := by kernel_rfl
theorem gz_Its : szOf Try.prog 23 = 1 := by kernel_rfl
theorem gs_Its : sliceT Try.prog 23 = some (38, 6, 96) := by kernel_rfl
theorem ge_Its : elemT Try.prog 23 = some (38, 6, 96, .agg #[.int .u8 0, .bool false, .slice none 0 0, .slice none 0 0, .int .i32 0, .slice none 0 0]) := by kernel_rfl
theorem gu_Its : Try.prog.underlying 23 = some (.slice (Try.prog.elem 23)) := by kernel_rfl
theorem gB_Its : (1466015503701 : Nat) * 96 ≤ 140737488355328 ∧ (1466015503701 : Nat) ≤ 9223372036854775807 := by decide
theorem ga_Ars : aggT Try.prog 36 = some false := by kernel_rfl
theorem gz_Ars : szOf Try.prog 36 = 1 := by kernel_rfl
theorem gs_Ars : sliceT Try.prog 36 = some (25, 2, 48) := by kernel_rfl
theorem ge_Ars : elemT Try.prog 36 = some (25, 2, 48, .agg #[.slice none 0 0, .slice none 0 0]) := by kernel_rfl
theorem gu_Ars : Try.prog.underlying 36 = some (.slice (Try.prog.elem 36)) := by kernel_rfl
theorem gB_Ars : (2932031007402 : Nat) * 48 ≤ 140737488355328 ∧ (2932031007402 : Nat) ≤ 9223372036854775807 := by decide
abbrev FT_Itm__bool : Type := FW (Itm) (Bool)
abbrev FO_Itm__bool (f : FT_Itm__bool) : Prop := f.OK Try.prog (fun x => [.ag [.i .u8 x.kind, .b x.num.1, .sl (L x.num.2.1), .sl (L x.num.2.2), .i .i32 x.char, .sl (Ars x.box)]]) (fun r => .d (.b r))

abbrev FT_Itm__Itm : Type := FW (Itm) (Itm)
abbrev FO_Itm__Itm (f : FT_Itm__Itm) : Prop := f.OK Try.prog (fun x => [.ag [.i .u8 x.kind, .b x.num.1, .sl (L x.num.2.1), .sl (L x.num.2.2), .i .i32 x.char, .sl (Ars x.box)]]) (fun r => .d (.ag [.i .u8 r.kind, .b r.num.1, .sl (L r.num.2.1), .sl (L r.num.2.2), .i .i32 r.char, .sl (Ars r.box)]))

abbrev FT_int__bool : Type := FW (Int) (Bool)
abbrev FO_int__bool (f : FT_int__bool) : Prop := f.OK Try.prog (fun x => [.i .i64 x]) (fun r => .d (.b r))

abbrev FT_Itm_Itm__bool : Type := FW (Itm × Itm) (Bool)
abbrev FO_Itm_Itm__bool (f : FT_Itm_Itm__bool) : Prop := f.OK Try.prog (fun x => [.ag [.i .u8 x.1.kind, .b x.1.num.1, .sl (L x.1.num.2.1), .sl (L x.1.num.2.2), .i .i32 x.1.char, .sl (Ars x.1.box)], .ag [.i .u8 x.2.kind, .b x.2.num.1, .sl (L x.2.num.2.1), .sl (L x.2.num.2.2), .i .i32 x.2.char, .sl (Ars x.2.box)]]) (fun r => .d (.b r))

abbrev FT_Arr_Arr__bool : Type := FW (Arr × Arr) (Bool)
abbrev FO_Arr_Arr__bool (f : FT_Arr_Arr__bool) : Prop := f.OK Try.prog (fun x => [.ag [.sl (Is x.1.shape), .sl (Its x.1.items)], .ag [.sl (Is x.2.shape), .sl (Its x.2.items)]]) (fun r => .d (.b r))

end Go.FL
/-
  GP: rat: differences, quotients, rounding.
-/
namespace Go.FL
open Go Go.Proofs

def rat_IsInt (a0 : RT) : Option (Bool) := ((ratRight a0).bind fun x1 => (Option.bind ((if x1 = true then (ratOne.bind fun x3 => ((sEqualL a0.2.2 x3).bind fun x4 => (some x4))) else (some false)) : Option (Bool)) fun (z1 : Bool) => (some (z1))))
theorem rat_IsInt_ok {a0 : RT} {r : Bool} (h : rat_IsInt a0 = some r) :
    Fn Try.prog 100 [.ag [.b a0.1, .sl (L a0.2.1), .sl (L a0.2.2)]] (.d (.b r)) := by
  unfold rat_IsInt at h
  refine Fn.of (rs := [.tmp 2]) (nt := 11) Try.func100 rfl rfl rfl (by simp) rfl ?_
  refine .seq ?_
  refine .region ?_
  refine vk (vbx) ?_
  refine asd ?_
  refine rn ?_
  refine .gh (Gh.keep [1, 2] rfl) ?_
  refine .seq ?_
  obtain ⟨x1, hx1, h⟩ := bnd h
  obtain ⟨z1, hz, h⟩ := bnd h
  refine AW.mr (σ := Unit) (fun _ => True) (fun _ => [(2, .d (.b z1))]) (fun _ => []) ?_ ?_
  · skip
    refine .drawn 8 mixed (by kernel_rfl) ?_
    refine dv (vlda gA_R gS_R) ?_
    refine dv (vcl0 (ratRight_ok hx1) Try.call77) ?_
    by_cases hc : x1 = true
    · replace hz := ite_t hc hz
      have hb0 : x1 = true := hc
      refine dv (VOK.lit (vmvd) hb0) ?_
      refine dv (vfa gF_R_2) ?_
      refine dv (vldp ga_L) ?_
      obtain ⟨x3, hx3, hz⟩ := bnd hz
      refine dv ((vcl0 (ratOne_ok hx3) Try.call98).deep) ?_
      obtain ⟨x4, hx4, hz⟩ := bnd hz
      refine dv (vcl0 (sEqualL_ok hx4) Try.call113) ?_
      refine dv (vpkd) ?_
      refine dz ?_
      refine asd ?_
      refine RL.gh (Gh.keep [2] rfl) ?_
      refine .nil ?_
      cases hz
      exact jr () trivial
    replace hz := ite_f hc hz
    have hb0 : x1 = false := (bf hc)
    refine dv (VOK.lit (vmvd) hb0) ?_
    refine dgf ?_
    refine dgf ?_
    refine dgf ?_
    refine dgf ?_
    refine dv (vpkd) ?_
    refine dz ?_
    refine asd ?_
    refine RL.gh (Gh.keep [2] rfl) ?_
    refine .nil ?_
    cases hz
    exact jr () trivial
  rintro _ _
  refine .ret ?_
  cases h
  exact ⟨rfl, rfl⟩

end Go.FL
/-
  GP: array: sizes, items, copies.
-/
namespace Go.FL
open Go Go.Proofs

def slices_IndexFunc_int_int_l1 (a0 : (List Int)) (a1 : FT_int__bool) (K0 : Int → Option (Int)) : Nat → Int → Int → Option (Int)
  | 0, _, _ => none
  | k + 1, s2, s3 => (if s3 < ((List.length a0 : Nat) : Int) then ((rd? a0 s3).bind fun x4 => ((a1.g x4).bind fun x5 => (if x5 = true then (some (s3)) else (slices_IndexFunc_int_int_l1 a0 a1 K0 k s2 (w64 (s3 + 1)))))) else (K0 s2))
def slices_IndexFunc_int_int (a0 : (List Int)) (a1 : FT_int__bool) : Option (Int) := (jn (fun (z1 : Int) => (some ((-1)))) fun K0 => (slices_IndexFunc_int_int_l1 a0 a1 K0 FUEL 0 0))
theorem slices_IndexFunc_int_int_ok {a0 : (List Int)} {a1 : FT_int__bool} (oa1 : FO_int__bool a1) {r : Int} (h : slices_IndexFunc_int_int a0 a1 = some r) :
    Fn Try.prog 124 [.sl (Is a0), a1.dv] (.d (.i .i64 r)) := by
  unfold slices_IndexFunc_int_int at h
  refine Fn.of (rs := [.tmp 4]) (nt := 19) Try.func124 rfl rfl rfl (by simp) rfl ?_
  refine .seq ?_
  refine .region ?_
  refine asd ?_
  refine rn ?_
  refine .gh (Gh.keep [0, 1, 4] rfl) ?_
  refine .seq ?_
  refine .seq ?_
  refine .region ?_
  refine vk (vmvd) ?_
  refine vk (vlnE (Is_length _) (Is_sz _) gu_Is) ?_
  refine vk (vmvd) ?_
  refine rn ?_
  refine .gh (Gh.keep [0, 1, 4, 7, 8] rfl) ?_
  obtain ⟨K0, hK0, h⟩ := jn_out h
  refine AW.mr (σ := Int) (fun p => K0 p = some r) (fun p => [(4, .d (.i .i64 p))]) (fun p => []) ?_ ?_
  · skip
    refine .block ?_
    refine .loop (.gh (Gh.keep [0, 1, 4, 7, 8] rfl) ?_)
    refine AL.ind (σ := Nat × Int × Int) (m := fun p => p.1) (e := fun p => [(0, .d (.sl (Is a0))), (1, .d (a1.dv)), (4, .d (.i .i64 p.2.1)), (7, .d (.i .i64 ((List.length a0 : Nat) : Int))), (8, .d (.i .i64 p.2.2))]) (h := fun p => []) (I := fun p => slices_IndexFunc_int_int_l1 a0 a1 K0 p.1 p.2.1 p.2.2 = some r) ?_ (FUEL, 0, 0) h
    rintro ⟨k, s2, s3⟩ h ih
    dsimp only at h ih ⊢
    rcases k with _ | k
    · rw [slices_IndexFunc_int_int_l1] at h; cases h
    rw [slices_IndexFunc_int_int_l1] at h
    refine .seq ?_
    refine .region ?_
    refine vk (vbi) ?_
    refine rn ?_
    refine .gh (Gh.keep [0, 1, 4, 7, 8, 9] rfl) ?_
    refine .seq ?_
    by_cases hc : s3 < ((List.length a0 : Nat) : Int)
    · replace h := ite_t hc h
      refine cnt (decide_eq_true hc) ?_
      refine .skip ?_
      show AW _ _ _ _ _ _
      refine .seq ?_
      refine .block ?_
      refine .seq ?_
      refine .region ?_
      refine vk (vmvd) ?_
      refine asd ?_
      refine rn ?_
      refine .gh (Gh.keep [0, 1, 4, 5, 7, 8] rfl) ?_
      refine .seq ?_
      refine .region ?_
      refine vk (vmvd) ?_
      refine vk (vmvd) ?_
      refine vk (vmvd) ?_
      obtain ⟨x4, hx4, h⟩ := bnd h
      obtain ⟨nx4, hnx4, hxx4⟩ := rd_some hx4
      refine vk (vix nx4 hnx4 (Is_at hxx4) rfl gs_Is) ?_
      refine vk (vldp ga_int) ?_
      obtain ⟨x5, hx5, h⟩ := bnd h
      refine vk (vclv (oa1 _ _ hx5)) ?_
      refine rn ?_
      refine .gh (Gh.keep [0, 1, 4, 5, 7, 8, 16] rfl) ?_
      by_cases hc : x5 = true
      · replace h := ite_t hc h
        refine cnt hc ?_
        refine .seq ?_
        refine .region ?_
        refine vk (vmvd) ?_
        refine asd ?_
        refine rn ?_
        refine .gh (Gh.keep [0, 1, 4, 7, 8] rfl) ?_
        refine .ret ?_
        cases h
        exact ⟨rfl, rfl⟩
      replace h := ite_f hc h
      refine cnf (bf hc) ?_
      refine .skip ?_
      show AW _ _ _ _ _ _
      refine .region ?_
      refine vk (vbi) ?_
      refine vk (vmvd) ?_
      refine .nil ?_
      refine AL.gh (Gh.keep [0, 1, 4, 7, 8] rfl) ?_
      exact ih (k, s2, (w64 (s3 + 1))) h (Nat.lt_succ_self _)
    replace h := ite_f hc h
    refine cnf (decide_eq_false hc) ?_
    refine .gh (Gh.keep [4] rfl) ?_
    refine .exit ?_
    exact jr (s2) h
  rintro z1 h
  try dsimp only at h ⊢
  subst hK0
  show AW _ _ _ _ _ _
  refine .seq ?_
  refine .region ?_
  refine asd ?_
  refine rn ?_
  refine .gh (Gh.keep [4] rfl) ?_
  refine .ret ?_
  cases h
  exact ⟨rfl, rfl⟩

def slices_ContainsFunc_int_int (a0 : (List Int)) (a1 : FT_int__bool) : Option (Bool) := ((slices_IndexFunc_int_int a0 a1).bind fun x1 => (some ((decide (0 ≤ x1)))))
theorem slices_ContainsFunc_int_int_ok {a0 : (List Int)} {a1 : FT_int__bool} (oa1 : FO_int__bool a1) {r : Bool} (h : slices_ContainsFunc_int_int a0 a1 = some r) :
    Fn Try.prog 90 [.sl (Is a0), a1.dv] (.d (.b r)) := by
  unfold slices_ContainsFunc_int_int at h
  refine Fn.of (rs := [.tmp 4]) (nt := 9) Try.func90 rfl rfl rfl (by simp) rfl ?_
  refine .seq ?_
  refine .region ?_
  refine asd ?_
  refine rn ?_
  refine .gh (Gh.keep [0, 1, 4] rfl) ?_
  refine .seq ?_
  refine .region ?_
  refine vk (vmvd) ?_
  refine vk (vmvd) ?_
  obtain ⟨x1, hx1, h⟩ := bnd h
  refine vk (vcl0 (slices_IndexFunc_int_int_ok oa1 hx1) Try.call124) ?_
  refine vk (vbi) ?_
  refine asd ?_
  refine rn ?_
  refine .gh (Gh.keep [4] rfl) ?_
  refine .ret ?_
  cases h
  exact ⟨rfl, rfl⟩

def slices_Index_int_int_l1 (a0 : (List Int)) (a1 : Int) (K0 : Int → Option (Int)) : Nat → Int → Int → Option (Int)
  | 0, _, _ => none
  | k + 1, s2, s3 => (if s3 < ((List.length a0 : Nat) : Int) then ((rd? a0 s3).bind fun x4 => (if a1 = x4 then (some (s3)) else (slices_Index_int_int_l1 a0 a1 K0 k s2 (w64 (s3 + 1))))) else (K0 s2))
def slices_Index_int_int (a0 : (List Int)) (a1 : Int) : Option (Int) := (jn (fun (z1 : Int) => (some ((-1)))) fun K0 => (slices_Index_int_int_l1 a0 a1 K0 FUEL 0 0))
theorem slices_Index_int_int_ok {a0 : (List Int)} {a1 : Int} {r : Int} (h : slices_Index_int_int a0 a1 = some r) :
    Fn Try.prog 125 [.sl (Is a0), .i .i64 a1] (.d (.i .i64 r)) := by
  unfold slices_Index_int_int at h
  refine Fn.of (rs := [.tmp 4]) (nt := 19) Try.func125 rfl rfl rfl (by simp) rfl ?_
  refine .seq ?_
  refine .region ?_
  refine asd ?_
  refine rn ?_
  refine .gh (Gh.keep [0, 1, 4] rfl) ?_
  refine .seq ?_
  refine .seq ?_
  refine .region ?_
  refine vk (vmvd) ?_
  refine vk (vlnE (Is_length _) (Is_sz _) gu_Is) ?_
  refine vk (vmvd) ?_
  refine rn ?_
  refine .gh (Gh.keep [0, 1, 4, 7, 8] rfl) ?_
  obtain ⟨K0, hK0, h⟩ := jn_out h
  refine AW.mr (σ := Int) (fun p => K0 p = some r) (fun p => [(4, .d (.i .i64 p))]) (fun p => []) ?_ ?_
  · skip
    refine .block ?_
    refine .loop (.gh (Gh.keep [0, 1, 4, 7, 8] rfl) ?_)
    refine AL.ind (σ := Nat × Int × Int) (m := fun p => p.1) (e := fun p => [(0, .d (.sl (Is a0))), (1, .d (.i .i64 a1)), (4, .d (.i .i64 p.2.1)), (7, .d (.i .i64 ((List.length a0 : Nat) : Int))), (8, .d (.i .i64 p.2.2))]) (h := fun p => []) (I := fun p => slices_Index_int_int_l1 a0 a1 K0 p.1 p.2.1 p.2.2 = some r) ?_ (FUEL, 0, 0) h
    rintro ⟨k, s2, s3⟩ h ih
    dsimp only at h ih ⊢
    rcases k with _ | k
    · rw [slices_Index_int_int_l1] at h; cases h
    rw [slices_Index_int_int_l1] at h
    refine .seq ?_
    refine .region ?_
    refine vk (vbi) ?_
    refine rn ?_
    refine .gh (Gh.keep [0, 1, 4, 7, 8, 9] rfl) ?_
    refine .seq ?_
    by_cases hc : s3 < ((List.length a0 : Nat) : Int)
    · replace h := ite_t hc h
      refine cnt (decide_eq_true hc) ?_
      refine .skip ?_
      show AW _ _ _ _ _ _
      refine .seq ?_
      refine .block ?_
      refine .seq ?_
      refine .region ?_
      refine vk (vmvd) ?_
      refine asd ?_
      refine rn ?_
      refine .gh (Gh.keep [0, 1, 4, 5, 7, 8] rfl) ?_
      refine .seq ?_
      refine .region ?_
      refine vk (vmvd) ?_
      refine vk (vmvd) ?_
      refine vk (vmvd) ?_
      obtain ⟨x4, hx4, h⟩ := bnd h
      obtain ⟨nx4, hnx4, hxx4⟩ := rd_some hx4
      refine vk (vix nx4 hnx4 (Is_at hxx4) rfl gs_Is) ?_
      refine vk (vldp ga_int) ?_
      refine vk (vbi) ?_
      refine rn ?_
      refine .gh (Gh.keep [0, 1, 4, 5, 7, 8, 16] rfl) ?_
      by_cases hc : a1 = x4
      · replace h := ite_t hc h
        refine cnt (decide_eq_true hc) ?_
        refine .seq ?_
        refine .region ?_
        refine vk (vmvd) ?_
        refine asd ?_
        refine rn ?_
        refine .gh (Gh.keep [0, 1, 4, 7, 8] rfl) ?_
        refine .ret ?_
        cases h
        exact ⟨rfl, rfl⟩
      replace h := ite_f hc h
      refine cnf (decide_eq_false hc) ?_
      refine .skip ?_
      show AW _ _ _ _ _ _
      refine .region ?_
      refine vk (vbi) ?_
      refine vk (vmvd) ?_
      refine .nil ?_
      refine AL.gh (Gh.keep [0, 1, 4, 7, 8] rfl) ?_
      exact ih (k, s2, (w64 (s3 + 1))) h (Nat.lt_succ_self _)
    replace h := ite_f hc h
    refine cnf (decide_eq_false hc) ?_
    refine .gh (Gh.keep [4] rfl) ?_
    refine .exit ?_
    exact jr (s2) h
  rintro z1 h
  try dsimp only at h ⊢
  subst hK0
  show AW _ _ _ _ _ _
  refine .seq ?_
  refine .region ?_
  refine asd ?_
  refine rn ?_
  refine .gh (Gh.keep [4] rfl) ?_
  refine .ret ?_
  cases h
  exact ⟨rfl, rfl⟩

def slices_Contains_int_int (a0 : (List Int)) (a1 : Int) : Option (Bool) := ((slices_Index_int_int a0 a1).bind fun x1 => (some ((decide (0 ≤ x1)))))
theorem slices_Contains_int_int_ok {a0 : (List Int)} {a1 : Int} {r : Bool} (h : slices_Contains_int_int a0 a1 = some r) :
    Fn Try.prog 93 [.sl (Is a0), .i .i64 a1] (.d (.b r)) := by
  unfold slices_Contains_int_int at h
  refine Fn.of (rs := [.tmp 4]) (nt := 9) Try.func93 rfl rfl rfl (by simp) rfl ?_
  refine .seq ?_
  refine .region ?_
  refine asd ?_
  refine rn ?_
  refine .gh (Gh.keep [0, 1, 4] rfl) ?_
  refine .seq ?_
  refine .region ?_
  refine vk (vmvd) ?_
  refine vk (vmvd) ?_
  obtain ⟨x1, hx1, h⟩ := bnd h
  refine vk (vcl0 (slices_Index_int_int_ok hx1) Try.call125) ?_
  refine vk (vbi) ?_
  refine asd ?_
  refine rn ?_
  refine .gh (Gh.keep [4] rfl) ?_
  refine .ret ?_
  cases h
  exact ⟨rfl, rfl⟩

def array_Size_1 (a0 : Int) : Option (Bool) := (some ((decide (a0 < 0))))
theorem array_Size_1_ok {a0 : Int} {r : Bool} (h : array_Size_1 a0 = some r) :
    Fn Try.prog 91 [.i .i64 a0] (.d (.b r)) := by
  unfold array_Size_1 at h
  refine Fn.of (rs := [.tmp 2]) (nt := 5) Try.func91 rfl rfl rfl (by simp) rfl ?_
  refine .seq ?_
  refine .region ?_
  refine asd ?_
  refine rn ?_
  refine .gh (Gh.keep [0, 2] rfl) ?_
  refine .seq ?_
  refine .region ?_
  refine vk (vmvd) ?_
  refine vk (vbi) ?_
  refine asd ?_
  refine rn ?_
  refine .gh (Gh.keep [2] rfl) ?_
  refine .ret ?_
  cases h
  exact ⟨rfl, rfl⟩

def array_Size_2 (a0 : Int) : Option (Bool) := (some ((decide (4096 < a0))))
theorem array_Size_2_ok {a0 : Int} {r : Bool} (h : array_Size_2 a0 = some r) :
    Fn Try.prog 92 [.i .i64 a0] (.d (.b r)) := by
  unfold array_Size_2 at h
  refine Fn.of (rs := [.tmp 2]) (nt := 5) Try.func92 rfl rfl rfl (by simp) rfl ?_
  refine .seq ?_
  refine .region ?_
  refine asd ?_
  refine rn ?_
  refine .gh (Gh.keep [0, 2] rfl) ?_
  refine .seq ?_
  refine .region ?_
  refine vk (vmvd) ?_
  refine vk (vbi) ?_
  refine asd ?_
  refine rn ?_
  refine .gh (Gh.keep [2] rfl) ?_
  refine .ret ?_
  cases h
  exact ⟨rfl, rfl⟩

def array_Size_l1 (a0 : (List Int)) (K0 : Int → Int → Int → Option (Int × Int)) : Nat → Int → Int → Int → Int → Option (Int × Int)
  | 0, _, _, _, _ => none
  | k + 1, s7, s8, s9, s10 => (if s10 < ((List.length a0 : Nat) : Int) then ((rd? a0 s10).bind fun x11 => ((grd? (s9 ≠ 0)).bind fun x12 => (if (w64 (Int.tdiv 4096 s9)) < x11 then (some (0, 8)) else (array_Size_l1 a0 K0 k s7 s8 (w64 (s9 * x11)) (w64 (s10 + 1)))))) else (K0 s7 s8 s9))
def array_Size (a0 : (List Int)) : Option (Int × Int) := (if 8 < ((List.length a0 : Nat) : Int) then (some (0, 4)) else ((slices_ContainsFunc_int_int a0 (⟨.fn 91 [] [], fun x => array_Size_1 x⟩ : FT_int__bool)).bind fun x1 => (if x1 = true then (some (0, 3)) else ((slices_ContainsFunc_int_int a0 (⟨.fn 92 [] [], fun x => array_Size_2 x⟩ : FT_int__bool)).bind fun x2 => (if x2 = true then (some (0, 8)) else ((slices_Contains_int_int a0 0).bind fun x3 => (if x3 = true then (some (0, 0)) else (jn (fun (z4 : Int) (z5 : Int) (z6 : Int) => (some (z6, 0))) fun K0 => (array_Size_l1 a0 K0 FUEL 0 0 1 0)))))))))
theorem array_Size_ok {a0 : (List Int)} {r : Int × Int} (h : array_Size a0 = some r) :
    Fn Try.prog 54 [.sl (Is a0)] (.tup [.d (.i .i64 r.1), .d (.i .i64 r.2)]) := by
  unfold array_Size at h
  refine Fn.of (rs := [.tmp 2, .tmp 3]) (nt := 35) Try.func54 rfl rfl rfl (by simp) rfl ?_
  refine .seq ?_
  refine .region ?_
  refine asd ?_
  refine asd ?_
  refine rn ?_
  refine .gh (Gh.keep [0, 2, 3] rfl) ?_
  refine .seq ?_
  refine .block ?_
  refine .seq ?_
  refine .region ?_
  refine vk (vmvd) ?_
  refine vk (vlnE (Is_length _) (Is_sz _) gu_Is) ?_
  refine vk (vbi) ?_
  refine asd ?_
  refine rn ?_
  refine .gh (Gh.keep [0, 2, 3, 7] rfl) ?_
  by_cases hc : 8 < ((List.length a0 : Nat) : Int)
  · replace h := ite_t hc h
    refine cnt (decide_eq_true hc) ?_
    refine .seq ?_
    refine .region ?_
    refine asd ?_
    refine asd ?_
    refine rn ?_
    refine .gh (Gh.keep [0, 2, 3] rfl) ?_
    refine .ret ?_
    cases h
    exact ⟨by decide, rfl, rfl, rfl⟩
  replace h := ite_f hc h
  refine cnf (decide_eq_false hc) ?_
  refine .seq ?_
  refine .region ?_
  refine vk (vmvd) ?_
  obtain ⟨x1, hx1, h⟩ := bnd h
  refine vk (vcl0 (slices_ContainsFunc_int_int_ok (FWOK Try.call91 (fun _ _ h => array_Size_1_ok h)) hx1) Try.call90) ?_
  refine asd ?_
  refine rn ?_
  refine .gh (Gh.keep [0, 2, 3, 11] rfl) ?_
  by_cases hc : x1 = true
  · replace h := ite_t hc h
    refine cnt hc ?_
    refine .seq ?_
    refine .region ?_
    refine asd ?_
    refine asd ?_
    refine rn ?_
    refine .gh (Gh.keep [0, 2, 3] rfl) ?_
    refine .ret ?_
    cases h
    exact ⟨by decide, rfl, rfl, rfl⟩
  replace h := ite_f hc h
  refine cnf (bf hc) ?_
  refine .seq ?_
  refine .region ?_
  refine vk (vmvd) ?_
  obtain ⟨x2, hx2, h⟩ := bnd h
  refine vk (vcl0 (slices_ContainsFunc_int_int_ok (FWOK Try.call92 (fun _ _ h => array_Size_2_ok h)) hx2) Try.call90) ?_
  refine asd ?_
  refine rn ?_
  refine .gh (Gh.keep [0, 2, 3, 14] rfl) ?_
  by_cases hc : x2 = true
  · replace h := ite_t hc h
    refine cnt hc ?_
    refine .seq ?_
    refine .region ?_
    refine asd ?_
    refine asd ?_
    refine rn ?_
    refine .gh (Gh.keep [0, 2, 3] rfl) ?_
    refine .ret ?_
    cases h
    exact ⟨by decide, rfl, rfl, rfl⟩
  replace h := ite_f hc h
  refine cnf (bf hc) ?_
  refine .seq ?_
  refine .region ?_
  refine vk (vmvd) ?_
  obtain ⟨x3, hx3, h⟩ := bnd h
  refine vk (vcl0 (slices_Contains_int_int_ok hx3) Try.call93) ?_
  refine asd ?_
  refine rn ?_
  refine .gh (Gh.keep [0, 2, 3, 17] rfl) ?_
  by_cases hc : x3 = true
  · replace h := ite_t hc h
    refine cnt hc ?_
    refine .seq ?_
    refine .region ?_
    refine asd ?_
    refine asd ?_
    refine rn ?_
    refine .gh (Gh.keep [0, 2, 3] rfl) ?_
    refine .ret ?_
    cases h
    exact ⟨by decide, rfl, rfl, rfl⟩
  replace h := ite_f hc h
  refine cnf (bf hc) ?_
  refine .skip ?_
  show AW _ _ _ _ _ _
  refine .seq ?_
  refine .region ?_
  refine asd ?_
  refine rn ?_
  refine .gh (Gh.keep [0, 2, 3, 4] rfl) ?_
  refine .seq ?_
  refine .seq ?_
  refine .region ?_
  refine vk (vmvd) ?_
  refine vk (vlnE (Is_length _) (Is_sz _) gu_Is) ?_
  refine vk (vmvd) ?_
  refine rn ?_
  refine .gh (Gh.keep [2, 3, 4, 20, 21, 22] rfl) ?_
  obtain ⟨K0, hK0, h⟩ := jn_out h
  refine AW.mr (σ := Int × Int × Int) (fun p => K0 p.1 p.2.1 p.2.2 = some r) (fun p => [(2, .d (.i .i64 p.1)), (3, .d (.i .i64 p.2.1)), (4, .d (.i .i64 p.2.2))]) (fun p => []) ?_ ?_
  · skip
    refine .block ?_
    refine .loop (.gh (Gh.keep [2, 3, 4, 20, 21, 22] rfl) ?_)
    refine AL.ind (σ := Nat × Int × Int × Int × Int) (m := fun p => p.1) (e := fun p => [(2, .d (.i .i64 p.2.1)), (3, .d (.i .i64 p.2.2.1)), (4, .d (.i .i64 p.2.2.2.1)), (20, .d (.sl (Is a0))), (21, .d (.i .i64 ((List.length a0 : Nat) : Int))), (22, .d (.i .i64 p.2.2.2.2))]) (h := fun p => []) (I := fun p => array_Size_l1 a0 K0 p.1 p.2.1 p.2.2.1 p.2.2.2.1 p.2.2.2.2 = some r) ?_ (FUEL, 0, 0, 1, 0) h
    rintro ⟨k, s7, s8, s9, s10⟩ h ih
    dsimp only at h ih ⊢
    rcases k with _ | k
    · rw [array_Size_l1] at h; cases h
    rw [array_Size_l1] at h
    refine .seq ?_
    refine .region ?_
    refine vk (vbi) ?_
    refine rn ?_
    refine .gh (Gh.keep [2, 3, 4, 20, 21, 22, 23] rfl) ?_
    refine .seq ?_
    by_cases hc : s10 < ((List.length a0 : Nat) : Int)
    · replace h := ite_t hc h
      refine cnt (decide_eq_true hc) ?_
      refine .skip ?_
      show AW _ _ _ _ _ _
      refine .seq ?_
      refine .block ?_
      refine .seq ?_
      refine .region ?_
      obtain ⟨x11, hx11, h⟩ := bnd h
      obtain ⟨nx11, hnx11, hxx11⟩ := rd_some hx11
      refine vk (vix nx11 hnx11 (Is_at hxx11) rfl gs_Is) ?_
      refine vk (vldp ga_int) ?_
      refine asd ?_
      refine rn ?_
      refine .gh (Gh.keep [2, 3, 4, 6, 20, 21, 22] rfl) ?_
      refine .seq ?_
      refine .seq ?_
      refine .region ?_
      refine vk (vmvd) ?_
      refine vk (vmvd) ?_
      obtain ⟨x12, hx12, h⟩ := bnd h
      refine vk (vbic (grd_ok hx12)) ?_
      refine vk (vbi) ?_
      refine rn ?_
      refine .gh (Gh.keep [2, 3, 4, 6, 20, 21, 22, 29] rfl) ?_
      by_cases hc : (w64 (Int.tdiv 4096 s9)) < x11
      · replace h := ite_t hc h
        refine cnt (decide_eq_true hc) ?_
        refine .seq ?_
        refine .region ?_
        refine asd ?_
        refine asd ?_
        refine rn ?_
        refine .gh (Gh.keep [2, 3, 4, 6, 20, 21, 22] rfl) ?_
        refine .ret ?_
        cases h
        exact ⟨by decide, rfl, rfl, rfl⟩
      replace h := ite_f hc h
      refine cnf (decide_eq_false hc) ?_
      refine .skip ?_
      show AW _ _ _ _ _ _
      refine .region ?_
      refine vk (vmvd) ?_
      refine vk (vmvd) ?_
      refine vk (vbi) ?_
      refine asd ?_
      refine .nil ?_
      show AW _ _ _ _ _ _
      refine .gh (Gh.keep [2, 3, 4, 20, 21, 22] rfl) ?_
      refine .region ?_
      refine vk (vbi) ?_
      refine vk (vmvd) ?_
      refine .nil ?_
      refine AL.gh (Gh.keep [2, 3, 4, 20, 21, 22] rfl) ?_
      exact ih (k, s7, s8, (w64 (s9 * x11)), (w64 (s10 + 1))) h (Nat.lt_succ_self _)
    replace h := ite_f hc h
    refine cnf (decide_eq_false hc) ?_
    refine .gh (Gh.keep [2, 3, 4] rfl) ?_
    refine .exit ?_
    exact jr (s7, s8, s9) h
  rintro ⟨z4, z5, z6⟩ h
  try dsimp only at h ⊢
  subst hK0
  show AW _ _ _ _ _ _
  refine .seq ?_
  refine .region ?_
  refine vk (vmvd) ?_
  refine asd ?_
  refine asd ?_
  refine rn ?_
  refine .gh (Gh.keep [2, 3] rfl) ?_
  refine .ret ?_
  cases h
  exact ⟨by decide, rfl, rfl, rfl⟩

def array_isSimple (a0 : Arr) : Option (Bool) := (Option.bind ((if ((List.length a0.shape : Nat) : Int) = 0 then (if ((List.length a0.items : Nat) : Int) = 1 then ((rd? a0.items 0).bind fun x2 => (some (!(decide (x2.kind = 3))))) else (some false)) else (some false)) : Option (Bool)) fun (z1 : Bool) => (some (z1)))
theorem array_isSimple_ok {a0 : Arr} {r : Bool} (h : array_isSimple a0 = some r) :
    Fn Try.prog 52 [.ag [.sl (Is a0.shape), .sl (Its a0.items)]] (.d (.b r)) := by
  unfold array_isSimple at h
  refine Fn.of (rs := [.tmp 2]) (nt := 21) Try.func52 rfl rfl rfl (by simp) rfl ?_
  refine .seq ?_
  refine .region ?_
  refine vk (vbx) ?_
  refine asd ?_
  refine rn ?_
  refine .gh (Gh.keep [1, 2] rfl) ?_
  refine .seq ?_
  obtain ⟨z1, hz, h⟩ := bnd h
  refine AW.mr (σ := Unit) (fun _ => True) (fun _ => [(2, .d (.b z1))]) (fun _ => []) ?_ ?_
  · skip
    refine .region ?_
    refine vk (vfa gF_Arr_0) ?_
    refine vk (vldp ga_Is) ?_
    refine vk (vlnE (Is_length _) (Is_sz _) gu_Is) ?_
    refine vk (vbi) ?_
    by_cases hc : ((List.length a0.shape : Nat) : Int) = 0
    · replace hz := ite_t hc hz
      have hb0 : (decide (((List.length a0.shape : Nat) : Int) = 0)) = true := (decide_eq_true hc)
      refine vk (VOK.lit (vmvd) hb0) ?_
      refine vk (vfa gF_Arr_1) ?_
      refine vk (vldp ga_Its) ?_
      refine vk (vlnE (Its_length _) (Its_sz _) gu_Its) ?_
      refine vk (vbi) ?_
      refine vk (vpkd) ?_
      by_cases hc : ((List.length a0.items : Nat) : Int) = 1
      · replace hz := ite_t hc hz
        have hb1 : (decide (((List.length a0.items : Nat) : Int) = 1)) = true := (decide_eq_true hc)
        refine vk (VOK.lit (vmvd) hb1) ?_
        refine vk (vfa gF_Arr_1) ?_
        refine vk (vldp ga_Its) ?_
        obtain ⟨x2, hx2, hz⟩ := bnd hz
        obtain ⟨nx2, hnx2, hxx2⟩ := rd_some hx2
        refine vk (vix nx2 hnx2 (Its_at hxx2) rfl gs_Its) ?_
        refine vk (vfa gF_Itm_0) ?_
        refine vk (vldp ga_ItemKind) ?_
        refine vk (vbi) ?_
        refine vk (vpkd) ?_
        refine asd ?_
        refine RL.gh (Gh.keep [2] rfl) ?_
        refine .nil ?_
        cases hz
        exact jr () trivial
      replace hz := ite_f hc hz
      have hb1 : (decide (((List.length a0.items : Nat) : Int) = 1)) = false := (decide_eq_false hc)
      refine vk (VOK.lit (vmvd) hb1) ?_
      refine gf ?_
      refine gf ?_
      refine gf ?_
      refine gf ?_
      refine gf ?_
      refine gf ?_
      refine vk (vpkd) ?_
      refine asd ?_
      refine RL.gh (Gh.keep [2] rfl) ?_
      refine .nil ?_
      cases hz
      exact jr () trivial
    replace hz := ite_f hc hz
    have hb0 : (decide (((List.length a0.shape : Nat) : Int) = 0)) = false := (decide_eq_false hc)
    refine vk (VOK.lit (vmvd) hb0) ?_
    refine gf ?_
    refine gf ?_
    refine gf ?_
    refine gf ?_
    refine vk (vpkd) ?_
    refine vk (vmvd) ?_
    refine gf ?_
    refine gf ?_
    refine gf ?_
    refine gf ?_
    refine gf ?_
    refine gf ?_
    refine vk (vpkd) ?_
    refine asd ?_
    refine RL.gh (Gh.keep [2] rfl) ?_
    refine .nil ?_
    cases hz
    exact jr () trivial
  rintro _ _
  refine .ret ?_
  cases h
  exact ⟨rfl, rfl⟩

def array_isChar (a0 : Int) : Option (Bool) := (some (((decide (0 ≤ a0)) && ((decide (a0 ≤ 1114111)) && ((decide (a0 < 55296)) || (decide (57343 < a0)))))))
theorem array_isChar_ok {a0 : Int} {r : Bool} (h : array_isChar a0 = some r) :
    Fn Try.prog 78 [.i .i32 a0] (.d (.b r)) := by
  unfold array_isChar at h
  refine Fn.of (rs := [.tmp 2]) (nt := 17) Try.func78 rfl rfl rfl (by simp) rfl ?_
  refine .seq ?_
  refine .region ?_
  refine asd ?_
  refine rn ?_
  refine .gh (Gh.keep [0, 2] rfl) ?_
  refine .seq ?_
  refine AW.mr (σ := Unit) (fun _ => True) (fun _ => [(2, .d (.b ((decide (0 ≤ a0)) && ((decide (a0 ≤ 1114111)) && ((decide (a0 < 55296)) || (decide (57343 < a0)))))))]) (fun _ => []) ?_ ?_
  · skip
    refine .region ?_
    refine vk (vmvd) ?_
    refine vk (vbi) ?_
    by_cases hc : 0 ≤ a0
    · have hb0 : (decide (0 ≤ a0)) = true := (decide_eq_true hc)
      refine vk (VOK.lit (vmvd) hb0) ?_
      refine vk (vmvd) ?_
      refine vk (vbi) ?_
      refine vk (vpkd) ?_
      by_cases hc : a0 ≤ 1114111
      · have hb1 : (decide (a0 ≤ 1114111)) = true := (decide_eq_true hc)
        refine vk (VOK.lit (vmvd) hb1) ?_
        refine vk (vmvd) ?_
        refine vk (vbi) ?_
        by_cases hc : a0 < 55296
        · have hb2 : (decide (a0 < 55296)) = true := (decide_eq_true hc)
          refine vk (VOK.lit (vmvd) hb2) ?_
          refine gf ?_
          refine gf ?_
          refine vk (vpkd) ?_
          refine vk (vpkd) ?_
          refine asd ?_
          refine RL.gh (Gh.keep [2] rfl) ?_
          refine .nil ?_
          exact jr () trivial (by simp only [hb0, hb1, hb2]; rfl)
        have hb2 : (decide (a0 < 55296)) = false := (decide_eq_false hc)
        refine vk (VOK.lit (vmvd) hb2) ?_
        refine vk (vmvd) ?_
        refine vk (vbi) ?_
        refine vk (vpkd) ?_
        refine vk (vpkd) ?_
        refine asd ?_
        refine RL.gh (Gh.keep [2] rfl) ?_
        refine .nil ?_
        exact jr () trivial (by simp only [hb0, hb1, hb2]; rfl)
      have hb1 : (decide (a0 ≤ 1114111)) = false := (decide_eq_false hc)
      refine vk (VOK.lit (vmvd) hb1) ?_
      refine gf ?_
      refine gf ?_
      refine gfu ?_
      refine gf ?_
      refine gf ?_
      refine gf ?_
      refine vk (vpkd) ?_
      refine asd ?_
      refine RL.gh (Gh.keep [2] rfl) ?_
      refine .nil ?_
      exact jr () trivial (by simp only [hb0, hb1]; rfl)
    have hb0 : (decide (0 ≤ a0)) = false := (decide_eq_false hc)
    refine vk (VOK.lit (vmvd) hb0) ?_
    refine gf ?_
    refine gf ?_
    refine vk (vpkd) ?_
    refine vk (vmvd) ?_
    refine gf ?_
    refine gf ?_
    refine gfu ?_
    refine gf ?_
    refine gf ?_
    refine gf ?_
    refine vk (vpkd) ?_
    refine asd ?_
    refine RL.gh (Gh.keep [2] rfl) ?_
    refine .nil ?_
    exact jr () trivial (by simp only [hb0]; rfl)
  rintro _ _
  refine .ret ?_
  cases h
  exact ⟨rfl, rfl⟩

theorem gz0_Is : 0 < szOf Try.prog 3 := by rw [gz_int]; decide
def sClone_int (a : (List Int)) : Option ((List Int)) := ap? 17592186044416 [] a
theorem sClone_int_ok {a r : (List Int)} (h : sClone_int a = some r) : Fn Try.prog 58 [.sl (Is a)] (.own 3 (Is r)) := by
  unfold sClone_int at h
  refine Fn.of (rs := [.tmp 2]) (nt := 8) Try.func58 rfl rfl rfl (by simp) rfl ?_
  refine .seq ?_
  refine .region ?_
  refine asn ?_
  refine rn ?_
  refine .seq ?_
  refine .seq ?_
  refine .region ?_
  refine mvd ?_
  refine nq (fun b hb => ?_) (Is_sz _) gu_Is
  refine rn ?_
  refine cnd (fun hc => ?_) (fun hc => ?_)
  · simp only [if_true] at hc
    have h0 : Is a = [] := by
      apply Classical.byContradiction
      intro h; rw [hb h] at hc; cases hc
    have h1 : r = [] := by
      have := (ap_some h).2
      rw [this, List.nil_append]
      exact List.length_eq_zero_iff.1 (by rw [← Is_length a, h0]; rfl)
    subst h1
    refine .seq ?_
    refine .region ?_
    refine asn ?_
    refine rn ?_
    refine .gh (Gh.nlOwn (t := 2) 3 gz0_Is rfl) ?_
    refine .ret ?_
    exact ⟨rfl, rfl⟩
  · refine .skip ?_
    show AW _ _ _ _ _ _
    refine .seq ?_
    refine .region ?_
    refine vk (vbslE (ds' := Is []) rfl (Is_flat []) ge_Is) ?_
    refine mvd ?_
    refine apo' Is_app h gB_Is ?_ Is_sz1 Is_length ge_Is
    refine aso ?_
    refine rn ?_
    refine .ret ?_
    exact ⟨rfl, rfl⟩

def array_copiedRat (a0 : RT) : Option (RT) := ((sCloneL a0.2.1).bind fun x1 => ((sCloneL a0.2.2).bind fun x2 => (some ((a0.1, x1, x2)))))
theorem array_copiedRat_ok {a0 : RT} {r : RT} (h : array_copiedRat a0 = some r) :
    Fn Try.prog 96 [.ag [.b a0.1, .sl (L a0.2.1), .sl (L a0.2.2)]] (.d (.ag [.b r.1, .sl (L r.2.1), .sl (L r.2.2)])) := by
  unfold array_copiedRat at h
  refine Fn.ofC (rs := [.cell 2 35]) (nt := 12) Try.func96 rfl rfl rfl (by simp) rfl ?_
  refine .seq ?_
  refine .region ?_
  refine vk (vbx) ?_
  refine vk (van (zero_of gI_R) gZ_R) ?_
  refine rn ?_
  refine .gh (Gh.keep [1, 2] rfl) ?_
  refine .seq ?_
  refine .drawn 9 mixed (by kernel_rfl) ?_
  refine dv (vfa gF_R_0) ?_
  refine dv (vldp ga_bool) ?_
  refine dv (vfa gF_R_1) ?_
  refine dv (vldp ga_L) ?_
  obtain ⟨x1, hx1, h⟩ := bnd h
  refine dv ((vcl0 (sCloneL_ok hx1) Try.call126).deep) ?_
  refine dv (vfa gF_R_2) ?_
  refine dv (vldp ga_L) ?_
  obtain ⟨x2, hx2, h⟩ := bnd h
  refine dv ((vcl0 (sCloneL_ok hx2) Try.call126).deep) ?_
  refine dv (vbd gP_R gI_R gZ_R) ?_
  refine dz ?_
  refine stn ?_ gS_R (by decide)
  refine rn ?_
  refine .gh (Gh.keep [2] rfl) ?_
  refine .ret ?_
  cases h
  exact ⟨_, ⟨.inr rfl, gA_R, gS_R, (by decide : (0 : Nat) < 3)⟩, rfl⟩

def array_number (a0 : RT) : Option (Itm) := ((array_copiedRat a0).bind fun x1 => (some ((Itm.mk 1 x1 0 []))))
theorem array_number_ok {a0 : RT} {r : Itm} (h : array_number a0 = some r) :
    Fn Try.prog 63 [.ag [.b a0.1, .sl (L a0.2.1), .sl (L a0.2.2)]] (.d (.ag [.i .u8 r.kind, .b r.num.1, .sl (L r.num.2.1), .sl (L r.num.2.2), .i .i32 r.char, .sl (Ars r.box)])) := by
  unfold array_number at h
  refine Fn.ofC (rs := [.cell 2 38]) (nt := 6) Try.func63 rfl rfl rfl (by simp) rfl ?_
  refine .seq ?_
  refine .region ?_
  refine vk (vbx) ?_
  refine vk (van (zero_of gI_Itm) gZ_Itm) ?_
  refine rn ?_
  refine .gh (Gh.keep [1, 2] rfl) ?_
  refine .seq ?_
  refine .region ?_
  refine vk (vlda gA_R gS_R) ?_
  obtain ⟨x1, hx1, h⟩ := bnd h
  refine vk (vcl0 (array_copiedRat_ok hx1) Try.call96) ?_
  refine vk (vbd gP_Itm gI_Itm gZ_Itm) ?_
  refine stn ?_ gS_Itm (by decide)
  refine rn ?_
  refine .gh (Gh.keep [2] rfl) ?_
  refine .ret ?_
  cases h
  exact ⟨_, ⟨.inr rfl, gA_Itm, gS_Itm, (by decide : (0 : Nat) < 6)⟩, rfl⟩

def array_char (a0 : Int) : Option (Itm) := (some ((Itm.mk 2 (false, [], []) a0 [])))
theorem array_char_ok {a0 : Int} {r : Itm} (h : array_char a0 = some r) :
    Fn Try.prog 75 [.i .i32 a0] (.d (.ag [.i .u8 r.kind, .b r.num.1, .sl (L r.num.2.1), .sl (L r.num.2.2), .i .i32 r.char, .sl (Ars r.box)])) := by
  unfold array_char at h
  refine Fn.ofC (rs := [.cell 2 38]) (nt := 5) Try.func75 rfl rfl rfl (by simp) rfl ?_
  refine .seq ?_
  refine .region ?_
  refine vk (van (zero_of gI_Itm) gZ_Itm) ?_
  refine rn ?_
  refine .gh (Gh.keep [0, 2] rfl) ?_
  refine .seq ?_
  refine .region ?_
  refine vk (vmvd) ?_
  refine vk (vbd gP_Itm gI_Itm gZ_Itm) ?_
  refine stn ?_ gS_Itm (by decide)
  refine rn ?_
  refine .gh (Gh.keep [2] rfl) ?_
  refine .ret ?_
  cases h
  exact ⟨_, ⟨.inr rfl, gA_Itm, gS_Itm, (by decide : (0 : Nat) < 6)⟩, rfl⟩

def array_scalar (a0 : Itm) : Option (Arr) := (some ((Arr.mk [] [a0])))
theorem array_scalar_ok {a0 : Itm} {r : Arr} (h : array_scalar a0 = some r) :
    Fn Try.prog 70 [.ag [.i .u8 a0.kind, .b a0.num.1, .sl (L a0.num.2.1), .sl (L a0.num.2.2), .i .i32 a0.char, .sl (Ars a0.box)]] (.d (.ag [.sl (Is r.shape), .sl (Its r.items)])) := by
  unfold array_scalar at h
  refine Fn.ofC (rs := [.cell 2 25]) (nt := 6) Try.func70 rfl rfl rfl (by simp) rfl ?_
  refine .seq ?_
  refine .region ?_
  refine vk (vbx) ?_
  refine vk (van (zero_of gI_Arr) gZ_Arr) ?_
  refine rn ?_
  refine .gh (Gh.keep [1, 2] rfl) ?_
  refine .seq ?_
  refine .region ?_
  refine vk (vlda gA_Itm gS_Itm) ?_
  refine vk ((vbslE (Its_bs1 a0) (Its_flat [a0]) ge_Its).deep) ?_
  refine vk (vbd gP_Arr gI_Arr gZ_Arr) ?_
  refine stn ?_ gS_Arr (by decide)
  refine rn ?_
  refine .gh (Gh.keep [2] rfl) ?_
  refine .ret ?_
  cases h
  exact ⟨_, ⟨.inr rfl, gA_Arr, gS_Arr, (by decide : (0 : Nat) < 2)⟩, rfl⟩

def array_Int (a0 : Int) : Option (Arr) := ((ratOfInt a0).bind fun x1 => ((array_number x1).bind fun x2 => ((array_scalar x2).bind fun x3 => (some (x3)))))
theorem array_Int_ok {a0 : Int} {r : Arr} (h : array_Int a0 = some r) :
    Fn Try.prog 24 [.i .i64 a0] (.d (.ag [.sl (Is r.shape), .sl (Its r.items)])) := by
  unfold array_Int at h
  refine Fn.ofC (rs := [.cell 2 25]) (nt := 7) Try.func24 rfl rfl rfl (by simp) rfl ?_
  refine .seq ?_
  refine .region ?_
  refine vk (van (zero_of gI_Arr) gZ_Arr) ?_
  refine rn ?_
  refine .gh (Gh.keep [0, 2] rfl) ?_
  refine .seq ?_
  refine .region ?_
  refine vk (vmvd) ?_
  obtain ⟨x1, hx1, h⟩ := bnd h
  refine vk (vcl0 (ratOfInt_ok hx1) Try.call64) ?_
  obtain ⟨x2, hx2, h⟩ := bnd h
  refine vk (vcl0 (array_number_ok hx2) Try.call63) ?_
  obtain ⟨x3, hx3, h⟩ := bnd h
  refine vk (vcl0 (array_scalar_ok hx3) Try.call70) ?_
  refine stn ?_ gS_Arr (by decide)
  refine rn ?_
  refine .gh (Gh.keep [2] rfl) ?_
  refine .ret ?_
  cases h
  exact ⟨_, ⟨.inr rfl, gA_Arr, gS_Arr, (by decide : (0 : Nat) < 2)⟩, rfl⟩

def array_Rat (a0 : RT) : Option (Arr) := ((ratRight a0).bind fun x1 => (if x1 = true then ((array_number a0).bind fun x2 => ((array_scalar x2).bind fun x3 => (some (x3)))) else ((array_Int 0).bind fun x4 => (some (x4)))))
theorem array_Rat_ok {a0 : RT} {r : Arr} (h : array_Rat a0 = some r) :
    Fn Try.prog 35 [.ag [.b a0.1, .sl (L a0.2.1), .sl (L a0.2.2)]] (.d (.ag [.sl (Is r.shape), .sl (Its r.items)])) := by
  unfold array_Rat at h
  refine Fn.ofC (rs := [.cell 2 25]) (nt := 10) Try.func35 rfl rfl rfl (by simp) rfl ?_
  refine .seq ?_
  refine .region ?_
  refine vk (vbx) ?_
  refine vk (van (zero_of gI_Arr) gZ_Arr) ?_
  refine rn ?_
  refine .gh (Gh.keep [1, 2] rfl) ?_
  refine .seq ?_
  refine .seq ?_
  refine .region ?_
  refine vk (vlda gA_R gS_R) ?_
  obtain ⟨x1, hx1, h⟩ := bnd h
  refine vk (vcl0 (ratRight_ok hx1) Try.call77) ?_
  refine vk (vnt) ?_
  refine rn ?_
  refine .gh (Gh.keep [1, 2, 5] rfl) ?_
  by_cases hc : x1 = true
  · replace h := ite_t hc h
    refine cnf (ntf hc) ?_
    refine .skip ?_
    show AW _ _ _ _ _ _
    refine .seq ?_
    refine .region ?_
    refine vk (vlda gA_R gS_R) ?_
    obtain ⟨x2, hx2, h⟩ := bnd h
    refine vk (vcl0 (array_number_ok hx2) Try.call63) ?_
    obtain ⟨x3, hx3, h⟩ := bnd h
    refine vk (vcl0 (array_scalar_ok hx3) Try.call70) ?_
    refine stn ?_ gS_Arr (by decide)
    refine rn ?_
    refine .gh (Gh.keep [2] rfl) ?_
    refine .ret ?_
    cases h
    exact ⟨_, ⟨.inr rfl, gA_Arr, gS_Arr, (by decide : (0 : Nat) < 2)⟩, rfl⟩
  replace h := ite_f hc h
  refine cnt (ntt (bf hc)) ?_
  refine .seq ?_
  refine .region ?_
  obtain ⟨x4, hx4, h⟩ := bnd h
  refine vk (vcl0 (array_Int_ok hx4) Try.call24) ?_
  refine stn ?_ gS_Arr (by decide)
  refine rn ?_
  refine .gh (Gh.keep [1, 2] rfl) ?_
  refine .ret ?_
  cases h
  exact ⟨_, ⟨.inr rfl, gA_Arr, gS_Arr, (by decide : (0 : Nat) < 2)⟩, rfl⟩

def array_Char (a0 : Int) : Option (Arr) := ((array_isChar a0).bind fun x1 => (if x1 = true then ((array_char a0).bind fun x2 => ((array_scalar x2).bind fun x3 => (some (x3)))) else ((array_Int 0).bind fun x4 => (some (x4)))))
theorem array_Char_ok {a0 : Int} {r : Arr} (h : array_Char a0 = some r) :
    Fn Try.prog 36 [.i .i32 a0] (.d (.ag [.sl (Is r.shape), .sl (Its r.items)])) := by
  unfold array_Char at h
  refine Fn.ofC (rs := [.cell 2 25]) (nt := 10) Try.func36 rfl rfl rfl (by simp) rfl ?_
  refine .seq ?_
  refine .region ?_
  refine vk (van (zero_of gI_Arr) gZ_Arr) ?_
  refine rn ?_
  refine .gh (Gh.keep [0, 2] rfl) ?_
  refine .seq ?_
  refine .seq ?_
  refine .region ?_
  refine vk (vmvd) ?_
  obtain ⟨x1, hx1, h⟩ := bnd h
  refine vk (vcl0 (array_isChar_ok hx1) Try.call78) ?_
  refine vk (vnt) ?_
  refine rn ?_
  refine .gh (Gh.keep [0, 2, 5] rfl) ?_
  by_cases hc : x1 = true
  · replace h := ite_t hc h
    refine cnf (ntf hc) ?_
    refine .skip ?_
    show AW _ _ _ _ _ _
    refine .seq ?_
    refine .region ?_
    refine vk (vmvd) ?_
    obtain ⟨x2, hx2, h⟩ := bnd h
    refine vk (vcl0 (array_char_ok hx2) Try.call75) ?_
    obtain ⟨x3, hx3, h⟩ := bnd h
    refine vk (vcl0 (array_scalar_ok hx3) Try.call70) ?_
    refine stn ?_ gS_Arr (by decide)
    refine rn ?_
    refine .gh (Gh.keep [2] rfl) ?_
    refine .ret ?_
    cases h
    exact ⟨_, ⟨.inr rfl, gA_Arr, gS_Arr, (by decide : (0 : Nat) < 2)⟩, rfl⟩
  replace h := ite_f hc h
  refine cnt (ntt (bf hc)) ?_
  refine .seq ?_
  refine .region ?_
  obtain ⟨x4, hx4, h⟩ := bnd h
  refine vk (vcl0 (array_Int_ok hx4) Try.call24) ?_
  refine stn ?_ gS_Arr (by decide)
  refine rn ?_
  refine .gh (Gh.keep [0, 2] rfl) ?_
  refine .ret ?_
  cases h
  exact ⟨_, ⟨.inr rfl, gA_Arr, gS_Arr, (by decide : (0 : Nat) < 2)⟩, rfl⟩

def array_copied_l1 (a0 : Arr) (a1 : FT_Itm__Itm) (K0 : (List Int) → (List Itm) → Option (Arr)) : Nat → Int → (List Int) → (List Itm) → Option (Arr)
  | 0, _, _, _ => none
  | k + 1, s4, s5, s6 => (if s4 < ((List.length a0.items : Nat) : Int) then ((rd? a0.items s4).bind fun x7 => ((a1.g x7).bind fun x8 => ((ap? 1466015503701 s6 [x8]).bind fun x9 => (array_copied_l1 a0 a1 K0 k (w64 (s4 + 1)) s5 x9)))) else (K0 s5 s6))
def array_copied (a0 : Arr) (a1 : FT_Itm__Itm) : Option (Arr) := ((sClone_int a0.shape).bind fun x1 => (jn (fun (z2 : (List Int)) (z3 : (List Itm)) => (some ((Arr.mk z2 z3)))) fun K0 => (array_copied_l1 a0 a1 K0 FUEL 0 x1 [])))
theorem array_copied_ok {a0 : Arr} {a1 : FT_Itm__Itm} (oa1 : FO_Itm__Itm a1) {r : Arr} (h : array_copied a0 a1 = some r) :
    Fn Try.prog 61 [.ag [.sl (Is a0.shape), .sl (Its a0.items)], a1.dv] (.d (.ag [.sl (Is r.shape), .sl (Its r.items)])) := by
  unfold array_copied at h
  refine Fn.ofC (rs := [.cell 4 25]) (nt := 29) Try.func61 rfl rfl rfl (by simp) rfl ?_
  refine .seq ?_
  refine .region ?_
  refine vk (vbx) ?_
  refine vk (van (zero_of gI_Arr) gZ_Arr) ?_
  refine rn ?_
  refine .gh (Gh.keep [1, 2, 4] rfl) ?_
  refine .seq ?_
  refine .region ?_
  refine vk (vfa gF_Arr_0) ?_
  refine vk (vldp ga_Is) ?_
  obtain ⟨x1, hx1, h⟩ := bnd h
  refine vk ((vcl0 (sClone_int_ok hx1) Try.call58).deep) ?_
  refine vk (vbdA gP_Arr gI_Arr (fun w I μ => gZA_Arr w I μ)) ?_
  refine vk (van (zero_of gI_Arr) gZ_Arr) ?_
  refine stnA ?_ gS_Arr (by decide)
  refine rn ?_
  refine .gh (Gh.keep [1, 2, 4, 5] rfl) ?_
  refine .seq ?_
  refine .seq ?_
  refine .region ?_
  refine vk (vfa gF_Arr_1) ?_
  refine vk (vldp ga_Its) ?_
  refine vk (vlnE (Its_length _) (Its_sz _) gu_Its) ?_
  refine vk (vmvd) ?_
  refine rn ?_
  refine .gh (Gh.keep [1, 4, 5, 13, 14, 15] rfl) ?_
  obtain ⟨K0, hK0, h⟩ := jn_out h
  refine AW.mr (σ := (List Int) × (List Itm)) (fun p => K0 p.1 p.2 = some r) (fun p => [(4, .nb [.sl (Is []), .sl (Its [])]), (5, .bp 0 0)]) (fun p => [HO.box [.d (.sl (Is p.1)), .own 38 (Its p.2)]]) ?_ ?_
  · skip
    refine .block ?_
    refine .gh (Gh.nlOwnC (id := 0) (off := 1) 38 (by rw [gz_Itm]; decide)) ?_
    refine .loop (.gh (Gh.keep [1, 4, 5, 13, 14, 15] rfl) ?_)
    refine AL.ind (σ := Nat × Int × (List Int) × (List Itm)) (m := fun p => p.1) (e := fun p => [(1, .d (a1.dv)), (4, .nb [.sl (Is []), .sl (Its [])]), (5, .bp 0 0), (13, .d (.sl (Its a0.items))), (14, .d (.i .i64 ((List.length a0.items : Nat) : Int))), (15, .d (.i .i64 p.2.1))]) (h := fun p => [HO.box [.d (.sl (Is p.2.2.1)), .own 38 (Its p.2.2.2)]]) (I := fun p => array_copied_l1 a0 a1 K0 p.1 p.2.1 p.2.2.1 p.2.2.2 = some r) ?_ (FUEL, 0, x1, []) h
    rintro ⟨k, s4, s5, s6⟩ h ih
    dsimp only at h ih ⊢
    rcases k with _ | k
    · rw [array_copied_l1] at h; cases h
    rw [array_copied_l1] at h
    refine .seq ?_
    refine .region ?_
    refine vk (vbi) ?_
    refine rn ?_
    refine .gh (Gh.keep [1, 4, 5, 13, 14, 15, 16] rfl) ?_
    refine .seq ?_
    by_cases hc : s4 < ((List.length a0.items : Nat) : Int)
    · replace h := ite_t hc h
      refine cnt (decide_eq_true hc) ?_
      refine .skip ?_
      show AW _ _ _ _ _ _
      refine .seq ?_
      refine .block ?_
      refine .seq ?_
      refine .region ?_
      obtain ⟨x7, hx7, h⟩ := bnd h
      obtain ⟨nx7, hnx7, hxx7⟩ := rd_some hx7
      refine vk (vix nx7 hnx7 (Its_at hxx7) rfl gs_Its) ?_
      refine vk (vlda gA_Itm gS_Itm) ?_
      refine vk (van (zero_of gI_Itm) gZ_Itm) ?_
      refine stn ?_ gS_Itm (by decide)
      refine rn ?_
      refine .gh (Gh.keep [1, 4, 5, 7, 13, 14, 15] rfl) ?_
      refine .drawn 6 mixed (by kernel_rfl) ?_
      refine dv (vfab gF_Arr_1) ?_
      refine dv (vldbo (cs := [.d (.sl (Is s5)), .own 38 (Its s6)]) rfl rfl ga_Its) ?_
      refine dv (vmvd) ?_
      refine dv (vldn gA_Itm gS_Itm) ?_
      obtain ⟨x8, hx8, h⟩ := bnd h
      refine dv (vclv (oa1 _ _ hx8)) ?_
      refine dv ((vbslE (Its_bs1 x8) (Its_flat [x8]) ge_Its).deep) ?_
      refine dz ?_
      obtain ⟨x9, hx9, h⟩ := bnd h
      refine apc' Its_app hx9 rfl rfl gB_Its ?_ Its_sz1 Its_length ge_Its
      refine RL.gh (Gh.keep [1, 4, 5, 7, 13, 14, 15, 19, 21, 22, 23, 24, 25] rfl) ?_
      refine vk (vfab gF_Arr_1) ?_
      refine stbo (cs := [.d (.sl (Is s5)), .un]) (c := .un) rfl rfl ?_ gz_Its
      refine .nil ?_
      show AW _ _ _ _ _ _
      refine .gh (Gh.keep [1, 4, 5, 13, 14, 15] rfl) ?_
      refine .region ?_
      refine vk (vbi) ?_
      refine vk (vmvd) ?_
      refine .nil ?_
      refine AL.gh (Gh.keep [1, 4, 5, 13, 14, 15] rfl) ?_
      exact ih (k, (w64 (s4 + 1)), s5, x9) h (Nat.lt_succ_self _)
    replace h := ite_f hc h
    refine cnf (decide_eq_false hc) ?_
    refine .gh (Gh.keep [4, 5] rfl) ?_
    refine .exit ?_
    exact jr (s5, s6) h
  rintro ⟨z2, z3⟩ h
  try dsimp only at h ⊢
  subst hK0
  show AW _ _ _ _ _ _
  refine .seq ?_
  refine .region ?_
  refine fz (p := .c 0 1) ?_
  refine vk (vldba (cs := [.d (.sl (Is z2)), .d (.sl (Its z3))]) (ds := [.sl (Is z2), .sl (Its z3)]) rfl gA_Arr gS_Arr) ?_
  refine stn ?_ gS_Arr (by decide)
  refine rn ?_
  refine .gh (Gh.keep [4] rfl) ?_
  refine .ret ?_
  cases h
  exact ⟨_, ⟨.inr rfl, gA_Arr, gS_Arr, (by decide : (0 : Nat) < 2)⟩, rfl⟩

def ar_sameB_l1 (rc_array_same : Itm → Option (Itm)) (a0 : Itm) (K0 : Int → Bool → (List Nat) → (List Nat) → Int → (List Arr) → Option (Itm)) : Nat → Int → Int → Bool → (List Nat) → (List Nat) → Int → (List Arr) → Option (Itm)
  | 0, _, _, _, _, _, _, _ => none
  | k + 1, s8, s9, s10, s11, s12, s13, s14 => (if s8 < ((List.length a0.box : Nat) : Int) then ((rd? a0.box s8).bind fun x15 => ((array_copied x15 (⟨.fn 60 [] [], fun x => rc_array_same x⟩ : FT_Itm__Itm)).bind fun x16 => ((ap? 2932031007402 s14 [x16]).bind fun x17 => (ar_sameB_l1 rc_array_same a0 K0 k (w64 (s8 + 1)) s9 s10 s11 s12 s13 x17)))) else (K0 s9 s10 s11 s12 s13 s14))
def ar_sameB (rc_array_same : Itm → Option (Itm)) (a0 : Itm) : Option (Itm) := ((array_copiedRat a0.num).bind fun x1 => (jn (fun (z2 : Int) (z3 : Bool) (z4 : (List Nat)) (z5 : (List Nat)) (z6 : Int) (z7 : (List Arr)) => (some ((Itm.mk z2 (z3, z4, z5) z6 z7)))) fun K0 => (ar_sameB_l1 rc_array_same a0 K0 FUEL 0 a0.kind x1.1 x1.2.1 x1.2.2 a0.char [])))
theorem ar_sameB_ok {rc_array_same : Itm → Option (Itm)} (orc_array_same : ∀ x0 r, rc_array_same x0 = some r → Fn Try.prog 60 [.ag [.i .u8 x0.kind, .b x0.num.1, .sl (L x0.num.2.1), .sl (L x0.num.2.2), .i .i32 x0.char, .sl (Ars x0.box)]] (.d (.ag [.i .u8 r.kind, .b r.num.1, .sl (L r.num.2.1), .sl (L r.num.2.2), .i .i32 r.char, .sl (Ars r.box)]))) {a0 : Itm} {r : Itm} (h : ar_sameB rc_array_same a0 = some r) :
    Fn Try.prog 60 [.ag [.i .u8 a0.kind, .b a0.num.1, .sl (L a0.num.2.1), .sl (L a0.num.2.2), .i .i32 a0.char, .sl (Ars a0.box)]] (.d (.ag [.i .u8 r.kind, .b r.num.1, .sl (L r.num.2.1), .sl (L r.num.2.2), .i .i32 r.char, .sl (Ars r.box)])) := by
  unfold ar_sameB at h
  refine Fn.ofC (rs := [.cell 2 38]) (nt := 30) Try.func60 rfl rfl rfl (by simp) rfl ?_
  refine .seq ?_
  refine .region ?_
  refine vk (vbx) ?_
  refine vk (van (zero_of gI_Itm) gZ_Itm) ?_
  refine rn ?_
  refine .gh (Gh.keep [1, 2] rfl) ?_
  refine .seq ?_
  refine .drawn 9 mixed (by kernel_rfl) ?_
  refine dv (vfa gF_Itm_0) ?_
  refine dv (vldp ga_ItemKind) ?_
  refine dv (vfa gF_Itm_2) ?_
  refine dv (vldp ga_int32) ?_
  refine dv (vfa gF_Itm_1) ?_
  refine dv (vlda gA_R gS_R) ?_
  obtain ⟨x1, hx1, h⟩ := bnd h
  refine dv (vcl0 (array_copiedRat_ok hx1) Try.call96) ?_
  refine dv (vbdA gP_Itm gI_Itm (fun w I μ => gZA_Itm w I μ)) ?_
  refine dv (van (zero_of gI_Itm) gZ_Itm) ?_
  refine dz ?_
  refine stnA ?_ gS_Itm (by decide)
  refine rn ?_
  refine .gh (Gh.keep [1, 2, 3] rfl) ?_
  refine .seq ?_
  refine .seq ?_
  refine .region ?_
  refine vk (vfa gF_Itm_3) ?_
  refine vk (vldp ga_Ars) ?_
  refine vk (vlnE (Ars_length _) (Ars_sz _) gu_Ars) ?_
  refine vk (vmvd) ?_
  refine rn ?_
  refine .gh (Gh.keep [2, 3, 15, 16, 17] rfl) ?_
  obtain ⟨K0, hK0, h⟩ := jn_out h
  refine AW.mr (σ := Int × Bool × (List Nat) × (List Nat) × Int × (List Arr)) (fun p => K0 p.1 p.2.1 p.2.2.1 p.2.2.2.1 p.2.2.2.2.1 p.2.2.2.2.2 = some r) (fun p => [(2, .nb [.i .u8 0, .b false, .sl (L []), .sl (L []), .i .i32 0, .sl (Ars [])]), (3, .bp 0 0)]) (fun p => [HO.box [.d (.i .u8 p.1), .d (.b p.2.1), .d (.sl (L p.2.2.1)), .d (.sl (L p.2.2.2.1)), .d (.i .i32 p.2.2.2.2.1), .own 25 (Ars p.2.2.2.2.2)]]) ?_ ?_
  · skip
    refine .block ?_
    refine .gh (Gh.nlOwnC (id := 0) (off := 5) 25 (by rw [gz_Arr]; decide)) ?_
    refine .loop (.gh (Gh.keep [2, 3, 15, 16, 17] rfl) ?_)
    refine AL.ind (σ := Nat × Int × Int × Bool × (List Nat) × (List Nat) × Int × (List Arr)) (m := fun p => p.1) (e := fun p => [(2, .nb [.i .u8 0, .b false, .sl (L []), .sl (L []), .i .i32 0, .sl (Ars [])]), (3, .bp 0 0), (15, .d (.sl (Ars a0.box))), (16, .d (.i .i64 ((List.length a0.box : Nat) : Int))), (17, .d (.i .i64 p.2.1))]) (h := fun p => [HO.box [.d (.i .u8 p.2.2.1), .d (.b p.2.2.2.1), .d (.sl (L p.2.2.2.2.1)), .d (.sl (L p.2.2.2.2.2.1)), .d (.i .i32 p.2.2.2.2.2.2.1), .own 25 (Ars p.2.2.2.2.2.2.2)]]) (I := fun p => ar_sameB_l1 rc_array_same a0 K0 p.1 p.2.1 p.2.2.1 p.2.2.2.1 p.2.2.2.2.1 p.2.2.2.2.2.1 p.2.2.2.2.2.2.1 p.2.2.2.2.2.2.2 = some r) ?_ (FUEL, 0, a0.kind, x1.1, x1.2.1, x1.2.2, a0.char, []) h
    rintro ⟨k, s8, s9, s10, s11, s12, s13, s14⟩ h ih
    dsimp only at h ih ⊢
    rcases k with _ | k
    · rw [ar_sameB_l1] at h; cases h
    rw [ar_sameB_l1] at h
    refine .seq ?_
    refine .region ?_
    refine vk (vbi) ?_
    refine rn ?_
    refine .gh (Gh.keep [2, 3, 15, 16, 17, 18] rfl) ?_
    refine .seq ?_
    by_cases hc : s8 < ((List.length a0.box : Nat) : Int)
    · replace h := ite_t hc h
      refine cnt (decide_eq_true hc) ?_
      refine .skip ?_
      show AW _ _ _ _ _ _
      refine .seq ?_
      refine .block ?_
      refine .seq ?_
      refine .region ?_
      obtain ⟨x15, hx15, h⟩ := bnd h
      obtain ⟨nx15, hnx15, hxx15⟩ := rd_some hx15
      refine vk (vix nx15 hnx15 (Ars_at hxx15) rfl gs_Ars) ?_
      refine vk (vlda gA_Arr gS_Arr) ?_
      refine vk (van (zero_of gI_Arr) gZ_Arr) ?_
      refine stn ?_ gS_Arr (by decide)
      refine rn ?_
      refine .gh (Gh.keep [2, 3, 5, 15, 16, 17] rfl) ?_
      refine .drawn 5 mixed (by kernel_rfl) ?_
      refine dv (vfab gF_Itm_3) ?_
      refine dv (vldbo (cs := [.d (.i .u8 s9), .d (.b s10), .d (.sl (L s11)), .d (.sl (L s12)), .d (.i .i32 s13), .own 25 (Ars s14)]) rfl rfl ga_Ars) ?_
      refine dv (vldn gA_Arr gS_Arr) ?_
      obtain ⟨x16, hx16, h⟩ := bnd h
      refine dv (vcl0 (array_copied_ok (FWOK Try.call60 (fun _ _ h => orc_array_same _ _ h)) hx16) Try.call61) ?_
      refine dv ((vbslE (Ars_bs1 x16) (Ars_flat [x16]) ge_Ars).deep) ?_
      refine dz ?_
      obtain ⟨x17, hx17, h⟩ := bnd h
      refine apc' Ars_app hx17 rfl rfl gB_Ars ?_ Ars_sz1 Ars_length ge_Ars
      refine RL.gh (Gh.keep [2, 3, 5, 15, 16, 17, 21, 23, 24, 25, 26] rfl) ?_
      refine vk (vfab gF_Itm_3) ?_
      refine stbo (cs := [.d (.i .u8 s9), .d (.b s10), .d (.sl (L s11)), .d (.sl (L s12)), .d (.i .i32 s13), .un]) (c := .un) rfl rfl ?_ gz_Ars
      refine .nil ?_
      show AW _ _ _ _ _ _
      refine .gh (Gh.keep [2, 3, 15, 16, 17] rfl) ?_
      refine .region ?_
      refine vk (vbi) ?_
      refine vk (vmvd) ?_
      refine .nil ?_
      refine AL.gh (Gh.keep [2, 3, 15, 16, 17] rfl) ?_
      exact ih (k, (w64 (s8 + 1)), s9, s10, s11, s12, s13, x17) h (Nat.lt_succ_self _)
    replace h := ite_f hc h
    refine cnf (decide_eq_false hc) ?_
    refine .gh (Gh.keep [2, 3] rfl) ?_
    refine .exit ?_
    exact jr (s9, s10, s11, s12, s13, s14) h
  rintro ⟨z2, z3, z4, z5, z6, z7⟩ h
  try dsimp only at h ⊢
  subst hK0
  show AW _ _ _ _ _ _
  refine .seq ?_
  refine .region ?_
  refine fz (p := .c 0 5) ?_
  refine vk (vldba (cs := [.d (.i .u8 z2), .d (.b z3), .d (.sl (L z4)), .d (.sl (L z5)), .d (.i .i32 z6), .d (.sl (Ars z7))]) (ds := [.i .u8 z2, .b z3, .sl (L z4), .sl (L z5), .i .i32 z6, .sl (Ars z7)]) rfl gA_Itm gS_Itm) ?_
  refine stn ?_ gS_Itm (by decide)
  refine rn ?_
  refine .gh (Gh.keep [2] rfl) ?_
  refine .ret ?_
  cases h
  exact ⟨_, ⟨.inr rfl, gA_Itm, gS_Itm, (by decide : (0 : Nat) < 6)⟩, rfl⟩

def ar_same_r : Nat → Itm → Option (Itm)
  | 0, _ => none
  | k + 1, a0 => ar_sameB (ar_same_r k) a0
theorem ar_same_r_ok : ∀ (k : Nat) (a0 : Itm) (r : Itm), ar_same_r k a0 = some r → Fn Try.prog 60 [.ag [.i .u8 a0.kind, .b a0.num.1, .sl (L a0.num.2.1), .sl (L a0.num.2.2), .i .i32 a0.char, .sl (Ars a0.box)]] (.d (.ag [.i .u8 r.kind, .b r.num.1, .sl (L r.num.2.1), .sl (L r.num.2.2), .i .i32 r.char, .sl (Ars r.box)]))
  | 0, _, _, h => by cases h
  | k + 1, a0, _, h => ar_sameB_ok (ar_same_r_ok k) (show ar_sameB (ar_same_r k) a0 = some _ from h)
def ar_same (a0 : Itm) : Option (Itm) := ar_same_r (a0.size + 1) a0
theorem ar_same_ok {a0 : Itm} {r : Itm} (h : ar_same a0 = some r) : Fn Try.prog 60 [.ag [.i .u8 a0.kind, .b a0.num.1, .sl (L a0.num.2.1), .sl (L a0.num.2.2), .i .i32 a0.char, .sl (Ars a0.box)]] (.d (.ag [.i .u8 r.kind, .b r.num.1, .sl (L r.num.2.1), .sl (L r.num.2.2), .i .i32 r.char, .sl (Ars r.box)])) := ar_same_r_ok _ a0 r h

def ar_typedB (rc_array_typed : Itm → Option (Itm)) (a0 : Itm) : Option (Itm) := (if a0.kind = 1 then ((ratOfInt 0).bind fun x1 => ((array_number x1).bind fun x2 => (some (x2)))) else (if a0.kind = 2 then ((array_char 32).bind fun x3 => (some (x3))) else ((rd? a0.box 0).bind fun x4 => ((array_copied x4 (⟨.fn 59 [] [], fun x => rc_array_typed x⟩ : FT_Itm__Itm)).bind fun x5 => (some ((Itm.mk 3 (false, [], []) 0 [x5])))))))
theorem ar_typedB_ok {rc_array_typed : Itm → Option (Itm)} (orc_array_typed : ∀ x0 r, rc_array_typed x0 = some r → Fn Try.prog 59 [.ag [.i .u8 x0.kind, .b x0.num.1, .sl (L x0.num.2.1), .sl (L x0.num.2.2), .i .i32 x0.char, .sl (Ars x0.box)]] (.d (.ag [.i .u8 r.kind, .b r.num.1, .sl (L r.num.2.1), .sl (L r.num.2.2), .i .i32 r.char, .sl (Ars r.box)]))) {a0 : Itm} {r : Itm} (h : ar_typedB rc_array_typed a0 = some r) :
    Fn Try.prog 59 [.ag [.i .u8 a0.kind, .b a0.num.1, .sl (L a0.num.2.1), .sl (L a0.num.2.2), .i .i32 a0.char, .sl (Ars a0.box)]] (.d (.ag [.i .u8 r.kind, .b r.num.1, .sl (L r.num.2.1), .sl (L r.num.2.2), .i .i32 r.char, .sl (Ars r.box)])) := by
  unfold ar_typedB at h
  refine Fn.ofC (rs := [.cell 2 38]) (nt := 19) Try.func59 rfl rfl rfl (by simp) rfl ?_
  refine .seq ?_
  refine .region ?_
  refine vk (vbx) ?_
  refine vk (van (zero_of gI_Itm) gZ_Itm) ?_
  refine rn ?_
  refine .gh (Gh.keep [1, 2] rfl) ?_
  refine .seq ?_
  refine .seq ?_
  refine .region ?_
  refine vk (vfa gF_Itm_0) ?_
  refine vk (vldp ga_ItemKind) ?_
  refine rn ?_
  refine .gh (Gh.keep [1, 2, 4] rfl) ?_
  refine .block ?_
  refine .seq ?_
  refine .region ?_
  refine vk (vbi) ?_
  refine asd ?_
  refine rn ?_
  refine .gh (Gh.keep [1, 2, 4, 5] rfl) ?_
  by_cases hc : a0.kind = 1
  · replace h := ite_t hc h
    refine cnt (decide_eq_true hc) ?_
    refine .seq ?_
    refine .region ?_
    obtain ⟨x1, hx1, h⟩ := bnd h
    refine vk (vcl0 (ratOfInt_ok hx1) Try.call64) ?_
    obtain ⟨x2, hx2, h⟩ := bnd h
    refine vk (vcl0 (array_number_ok hx2) Try.call63) ?_
    refine stn ?_ gS_Itm (by decide)
    refine rn ?_
    refine .gh (Gh.keep [1, 2] rfl) ?_
    refine .ret ?_
    cases h
    exact ⟨_, ⟨.inr rfl, gA_Itm, gS_Itm, (by decide : (0 : Nat) < 6)⟩, rfl⟩
  replace h := ite_f hc h
  refine cnf (decide_eq_false hc) ?_
  refine .seq ?_
  refine .region ?_
  refine vk (vbi) ?_
  refine asd ?_
  refine rn ?_
  refine .gh (Gh.keep [1, 2, 9] rfl) ?_
  by_cases hc : a0.kind = 2
  · replace h := ite_t hc h
    refine cnt (decide_eq_true hc) ?_
    refine .seq ?_
    refine .region ?_
    obtain ⟨x3, hx3, h⟩ := bnd h
    refine vk (vcl0 (array_char_ok hx3) Try.call75) ?_
    refine stn ?_ gS_Itm (by decide)
    refine rn ?_
    refine .gh (Gh.keep [1, 2] rfl) ?_
    refine .ret ?_
    cases h
    exact ⟨_, ⟨.inr rfl, gA_Itm, gS_Itm, (by decide : (0 : Nat) < 6)⟩, rfl⟩
  replace h := ite_f hc h
  refine cnf (decide_eq_false hc) ?_
  refine .skip ?_
  show AW _ _ _ _ _ _
  refine .seq ?_
  refine .region ?_
  refine vk (vfa gF_Itm_3) ?_
  refine vk (vldp ga_Ars) ?_
  obtain ⟨x4, hx4, h⟩ := bnd h
  obtain ⟨nx4, hnx4, hxx4⟩ := rd_some hx4
  refine vk (vix nx4 hnx4 (Ars_at hxx4) rfl gs_Ars) ?_
  refine vk (vlda gA_Arr gS_Arr) ?_
  obtain ⟨x5, hx5, h⟩ := bnd h
  refine vk (vcl0 (array_copied_ok (FWOK Try.call59 (fun _ _ h => orc_array_typed _ _ h)) hx5) Try.call61) ?_
  refine vk ((vbslE (Ars_bs1 x5) (Ars_flat [x5]) ge_Ars).deep) ?_
  refine vk (vbd gP_Itm gI_Itm gZ_Itm) ?_
  refine stn ?_ gS_Itm (by decide)
  refine rn ?_
  refine .gh (Gh.keep [2] rfl) ?_
  refine .ret ?_
  cases h
  exact ⟨_, ⟨.inr rfl, gA_Itm, gS_Itm, (by decide : (0 : Nat) < 6)⟩, rfl⟩

def ar_typed_r : Nat → Itm → Option (Itm)
  | 0, _ => none
  | k + 1, a0 => ar_typedB (ar_typed_r k) a0
theorem ar_typed_r_ok : ∀ (k : Nat) (a0 : Itm) (r : Itm), ar_typed_r k a0 = some r → Fn Try.prog 59 [.ag [.i .u8 a0.kind, .b a0.num.1, .sl (L a0.num.2.1), .sl (L a0.num.2.2), .i .i32 a0.char, .sl (Ars a0.box)]] (.d (.ag [.i .u8 r.kind, .b r.num.1, .sl (L r.num.2.1), .sl (L r.num.2.2), .i .i32 r.char, .sl (Ars r.box)]))
  | 0, _, _, h => by cases h
  | k + 1, a0, _, h => ar_typedB_ok (ar_typed_r_ok k) (show ar_typedB (ar_typed_r k) a0 = some _ from h)
def ar_typed (a0 : Itm) : Option (Itm) := ar_typed_r (a0.size + 1) a0
theorem ar_typed_ok {a0 : Itm} {r : Itm} (h : ar_typed a0 = some r) : Fn Try.prog 59 [.ag [.i .u8 a0.kind, .b a0.num.1, .sl (L a0.num.2.1), .sl (L a0.num.2.2), .i .i32 a0.char, .sl (Ars a0.box)]] (.d (.ag [.i .u8 r.kind, .b r.num.1, .sl (L r.num.2.1), .sl (L r.num.2.2), .i .i32 r.char, .sl (Ars r.box)])) := ar_typed_r_ok _ a0 r h
end Go.FL
/-
  GP: array: equal arrays.
-/
namespace Go.FL
open Go Go.Proofs

def slices_Equal_int_int_l1 (a0 : (List Int)) (a1 : (List Int)) (K0 : Bool → Option (Bool)) : Nat → Bool → Int → Option (Bool)
  | 0, _, _ => none
  | k + 1, s2, s3 => (if s3 < ((List.length a0 : Nat) : Int) then ((rd? a0 s3).bind fun x4 => ((rd? a1 s3).bind fun x5 => (if x4 = x5 then (slices_Equal_int_int_l1 a0 a1 K0 k s2 (w64 (s3 + 1))) else (some (false))))) else (K0 s2))
def slices_Equal_int_int (a0 : (List Int)) (a1 : (List Int)) : Option (Bool) := (if ((List.length a0 : Nat) : Int) = ((List.length a1 : Nat) : Int) then (jn (fun (z1 : Bool) => (some (true))) fun K0 => (slices_Equal_int_int_l1 a0 a1 K0 FUEL false 0)) else (some (false)))
theorem slices_Equal_int_int_ok {a0 : (List Int)} {a1 : (List Int)} {r : Bool} (h : slices_Equal_int_int a0 a1 = some r) :
    Fn Try.prog 118 [.sl (Is a0), .sl (Is a1)] (.d (.b r)) := by
  unfold slices_Equal_int_int at h
  refine Fn.of (rs := [.tmp 4]) (nt := 26) Try.func118 rfl rfl rfl (by simp) rfl ?_
  refine .seq ?_
  refine .region ?_
  refine asd ?_
  refine rn ?_
  refine .gh (Gh.keep [0, 1, 4] rfl) ?_
  refine .seq ?_
  refine .seq ?_
  refine .region ?_
  refine vk (vmvd) ?_
  refine vk (vlnE (Is_length _) (Is_sz _) gu_Is) ?_
  refine vk (vmvd) ?_
  refine vk (vlnE (Is_length _) (Is_sz _) gu_Is) ?_
  refine vk (vbi) ?_
  refine rn ?_
  refine .gh (Gh.keep [0, 1, 4, 10] rfl) ?_
  by_cases hc : ((List.length a0 : Nat) : Int) = ((List.length a1 : Nat) : Int)
  · replace h := ite_t hc h
    refine cnf (ntf (decide_eq_true hc)) ?_
    refine .skip ?_
    show AW _ _ _ _ _ _
    refine .seq ?_
    refine .seq ?_
    refine .region ?_
    refine vk (vmvd) ?_
    refine vk (vlnE (Is_length _) (Is_sz _) gu_Is) ?_
    refine vk (vmvd) ?_
    refine rn ?_
    refine .gh (Gh.keep [0, 1, 4, 12, 13] rfl) ?_
    obtain ⟨K0, hK0, h⟩ := jn_out h
    refine AW.mr (σ := Bool) (fun p => K0 p = some r) (fun p => [(4, .d (.b p))]) (fun p => []) ?_ ?_
    · skip
      refine .block ?_
      refine .loop (.gh (Gh.keep [0, 1, 4, 12, 13] rfl) ?_)
      refine AL.ind (σ := Nat × Bool × Int) (m := fun p => p.1) (e := fun p => [(0, .d (.sl (Is a0))), (1, .d (.sl (Is a1))), (4, .d (.b p.2.1)), (12, .d (.i .i64 ((List.length a0 : Nat) : Int))), (13, .d (.i .i64 p.2.2))]) (h := fun p => []) (I := fun p => slices_Equal_int_int_l1 a0 a1 K0 p.1 p.2.1 p.2.2 = some r) ?_ (FUEL, false, 0) h
      rintro ⟨k, s2, s3⟩ h ih
      dsimp only at h ih ⊢
      rcases k with _ | k
      · rw [slices_Equal_int_int_l1] at h; cases h
      rw [slices_Equal_int_int_l1] at h
      refine .seq ?_
      refine .region ?_
      refine vk (vbi) ?_
      refine rn ?_
      refine .gh (Gh.keep [0, 1, 4, 12, 13, 14] rfl) ?_
      refine .seq ?_
      by_cases hc : s3 < ((List.length a0 : Nat) : Int)
      · replace h := ite_t hc h
        refine cnt (decide_eq_true hc) ?_
        refine .skip ?_
        show AW _ _ _ _ _ _
        refine .seq ?_
        refine .block ?_
        refine .seq ?_
        refine .region ?_
        refine vk (vmvd) ?_
        refine asd ?_
        refine rn ?_
        refine .gh (Gh.keep [0, 1, 4, 5, 12, 13] rfl) ?_
        refine .seq ?_
        refine .drawn 9 mixed (by kernel_rfl) ?_
        refine dv (vmvd) ?_
        refine dv (vmvd) ?_
        obtain ⟨x4, hx4, h⟩ := bnd h
        obtain ⟨nx4, hnx4, hxx4⟩ := rd_some hx4
        refine dv (vix nx4 hnx4 (Is_at hxx4) rfl gs_Is) ?_
        refine dv (vldp ga_int) ?_
        refine dv (vmvd) ?_
        refine dv (vmvd) ?_
        obtain ⟨x5, hx5, h⟩ := bnd h
        obtain ⟨nx5, hnx5, hxx5⟩ := rd_some hx5
        refine dv (vix nx5 hnx5 (Is_at hxx5) rfl gs_Is) ?_
        refine dv (vldp ga_int) ?_
        refine dv (vbi) ?_
        refine dz ?_
        refine rn ?_
        refine .gh (Gh.keep [0, 1, 4, 12, 13, 24] rfl) ?_
        by_cases hc : x4 = x5
        · replace h := ite_t hc h
          refine cnf (ntf (decide_eq_true hc)) ?_
          refine .skip ?_
          show AW _ _ _ _ _ _
          refine .region ?_
          refine vk (vbi) ?_
          refine vk (vmvd) ?_
          refine .nil ?_
          refine AL.gh (Gh.keep [0, 1, 4, 12, 13] rfl) ?_
          exact ih (k, s2, (w64 (s3 + 1))) h (Nat.lt_succ_self _)
        replace h := ite_f hc h
        refine cnt (ntt (decide_eq_false hc)) ?_
        refine .seq ?_
        refine .region ?_
        refine asd ?_
        refine rn ?_
        refine .gh (Gh.keep [0, 1, 4, 12, 13] rfl) ?_
        refine .ret ?_
        cases h
        exact ⟨rfl, rfl⟩
      replace h := ite_f hc h
      refine cnf (decide_eq_false hc) ?_
      refine .gh (Gh.keep [4] rfl) ?_
      refine .exit ?_
      exact jr (s2) h
    rintro z1 h
    try dsimp only at h ⊢
    subst hK0
    show AW _ _ _ _ _ _
    refine .seq ?_
    refine .region ?_
    refine asd ?_
    refine rn ?_
    refine .gh (Gh.keep [4] rfl) ?_
    refine .ret ?_
    cases h
    exact ⟨rfl, rfl⟩
  replace h := ite_f hc h
  refine cnt (ntt (decide_eq_false hc)) ?_
  refine .seq ?_
  refine .region ?_
  refine asd ?_
  refine rn ?_
  refine .gh (Gh.keep [0, 1, 4] rfl) ?_
  refine .ret ?_
  cases h
  exact ⟨rfl, rfl⟩

def slices_EqualFunc_api_Item_api_Item_api_Item_api_Item_l1 (a0 : (List Itm)) (a1 : (List Itm)) (a2 : FT_Itm_Itm__bool) (K0 : Bool → Option (Bool)) : Nat → Bool → Int → Option (Bool)
  | 0, _, _ => none
  | k + 1, s2, s3 => (if s3 < ((List.length a0 : Nat) : Int) then ((rd? a0 s3).bind fun x4 => ((rd? a1 s3).bind fun x5 => ((a2.g (x4, x5)).bind fun x6 => (if x6 = true then (slices_EqualFunc_api_Item_api_Item_api_Item_api_Item_l1 a0 a1 a2 K0 k s2 (w64 (s3 + 1))) else (some (false)))))) else (K0 s2))
def slices_EqualFunc_api_Item_api_Item_api_Item_api_Item (a0 : (List Itm)) (a1 : (List Itm)) (a2 : FT_Itm_Itm__bool) : Option (Bool) := (if ((List.length a0 : Nat) : Int) = ((List.length a1 : Nat) : Int) then (jn (fun (z1 : Bool) => (some (true))) fun K0 => (slices_EqualFunc_api_Item_api_Item_api_Item_api_Item_l1 a0 a1 a2 K0 FUEL false 0)) else (some (false)))
theorem slices_EqualFunc_api_Item_api_Item_api_Item_api_Item_ok {a0 : (List Itm)} {a1 : (List Itm)} {a2 : FT_Itm_Itm__bool} (oa2 : FO_Itm_Itm__bool a2) {r : Bool} (h : slices_EqualFunc_api_Item_api_Item_api_Item_api_Item a0 a1 a2 = some r) :
    Fn Try.prog 119 [.sl (Its a0), .sl (Its a1), a2.dv] (.d (.b r)) := by
  unfold slices_EqualFunc_api_Item_api_Item_api_Item_api_Item at h
  refine Fn.of (rs := [.tmp 6]) (nt := 32) Try.func119 rfl rfl rfl (by simp) rfl ?_
  refine .seq ?_
  refine .region ?_
  refine asd ?_
  refine rn ?_
  refine .gh (Gh.keep [0, 1, 2, 6] rfl) ?_
  refine .seq ?_
  refine .seq ?_
  refine .region ?_
  refine vk (vmvd) ?_
  refine vk (vlnE (Its_length _) (Its_sz _) gu_Its) ?_
  refine vk (vmvd) ?_
  refine vk (vlnE (Its_length _) (Its_sz _) gu_Its) ?_
  refine vk (vbi) ?_
  refine rn ?_
  refine .gh (Gh.keep [0, 1, 2, 6, 14] rfl) ?_
  by_cases hc : ((List.length a0 : Nat) : Int) = ((List.length a1 : Nat) : Int)
  · replace h := ite_t hc h
    refine cnf (ntf (decide_eq_true hc)) ?_
    refine .skip ?_
    show AW _ _ _ _ _ _
    refine .seq ?_
    refine .seq ?_
    refine .region ?_
    refine vk (vmvd) ?_
    refine vk (vlnE (Its_length _) (Its_sz _) gu_Its) ?_
    refine vk (vmvd) ?_
    refine rn ?_
    refine .gh (Gh.keep [1, 2, 6, 15, 16, 17] rfl) ?_
    obtain ⟨K0, hK0, h⟩ := jn_out h
    refine AW.mr (σ := Bool) (fun p => K0 p = some r) (fun p => [(6, .d (.b p))]) (fun p => []) ?_ ?_
    · skip
      refine .block ?_
      refine .loop (.gh (Gh.keep [1, 2, 6, 15, 16, 17] rfl) ?_)
      refine AL.ind (σ := Nat × Bool × Int) (m := fun p => p.1) (e := fun p => [(1, .d (.sl (Its a1))), (2, .d (a2.dv)), (6, .d (.b p.2.1)), (15, .d (.sl (Its a0))), (16, .d (.i .i64 ((List.length a0 : Nat) : Int))), (17, .d (.i .i64 p.2.2))]) (h := fun p => []) (I := fun p => slices_EqualFunc_api_Item_api_Item_api_Item_api_Item_l1 a0 a1 a2 K0 p.1 p.2.1 p.2.2 = some r) ?_ (FUEL, false, 0) h
      rintro ⟨k, s2, s3⟩ h ih
      dsimp only at h ih ⊢
      rcases k with _ | k
      · rw [slices_EqualFunc_api_Item_api_Item_api_Item_api_Item_l1] at h; cases h
      rw [slices_EqualFunc_api_Item_api_Item_api_Item_api_Item_l1] at h
      refine .seq ?_
      refine .region ?_
      refine vk (vbi) ?_
      refine rn ?_
      refine .gh (Gh.keep [1, 2, 6, 15, 16, 17, 18] rfl) ?_
      refine .seq ?_
      by_cases hc : s3 < ((List.length a0 : Nat) : Int)
      · replace h := ite_t hc h
        refine cnt (decide_eq_true hc) ?_
        refine .skip ?_
        show AW _ _ _ _ _ _
        refine .seq ?_
        refine .block ?_
        refine .seq ?_
        refine .region ?_
        refine vk (vmvd) ?_
        obtain ⟨x4, hx4, h⟩ := bnd h
        obtain ⟨nx4, hnx4, hxx4⟩ := rd_some hx4
        refine vk (vix nx4 hnx4 (Its_at hxx4) rfl gs_Its) ?_
        refine vk (vlda gA_Itm gS_Itm) ?_
        refine vk (van (zero_of gI_Itm) gZ_Itm) ?_
        refine asd ?_
        refine stn ?_ gS_Itm (by decide)
        refine rn ?_
        refine .gh (Gh.keep [1, 2, 6, 7, 8, 15, 16, 17] rfl) ?_
        refine .seq ?_
        refine .region ?_
        refine vk (vmvd) ?_
        refine vk (vmvd) ?_
        obtain ⟨x5, hx5, h⟩ := bnd h
        obtain ⟨nx5, hnx5, hxx5⟩ := rd_some hx5
        refine vk (vix nx5 hnx5 (Its_at hxx5) rfl gs_Its) ?_
        refine vk (vlda gA_Itm gS_Itm) ?_
        refine vk (van (zero_of gI_Itm) gZ_Itm) ?_
        refine stn ?_ gS_Itm (by decide)
        refine rn ?_
        refine .gh (Gh.keep [1, 2, 6, 8, 9, 15, 16, 17] rfl) ?_
        refine .seq ?_
        refine .region ?_
        refine vk (vmvd) ?_
        refine vk (vldn gA_Itm gS_Itm) ?_
        refine vk (vldn gA_Itm gS_Itm) ?_
        obtain ⟨x6, hx6, h⟩ := bnd h
        refine vk (vclv (oa2 _ _ hx6)) ?_
        refine vk (vnt) ?_
        refine rn ?_
        refine .gh (Gh.keep [1, 2, 6, 15, 16, 17, 30] rfl) ?_
        by_cases hc : x6 = true
        · replace h := ite_t hc h
          refine cnf (ntf hc) ?_
          refine .skip ?_
          show AW _ _ _ _ _ _
          refine .region ?_
          refine vk (vbi) ?_
          refine vk (vmvd) ?_
          refine .nil ?_
          refine AL.gh (Gh.keep [1, 2, 6, 15, 16, 17] rfl) ?_
          exact ih (k, s2, (w64 (s3 + 1))) h (Nat.lt_succ_self _)
        replace h := ite_f hc h
        refine cnt (ntt (bf hc)) ?_
        refine .seq ?_
        refine .region ?_
        refine asd ?_
        refine rn ?_
        refine .gh (Gh.keep [1, 2, 6, 15, 16, 17] rfl) ?_
        refine .ret ?_
        cases h
        exact ⟨rfl, rfl⟩
      replace h := ite_f hc h
      refine cnf (decide_eq_false hc) ?_
      refine .gh (Gh.keep [6] rfl) ?_
      refine .exit ?_
      exact jr (s2) h
    rintro z1 h
    try dsimp only at h ⊢
    subst hK0
    show AW _ _ _ _ _ _
    refine .seq ?_
    refine .region ?_
    refine asd ?_
    refine rn ?_
    refine .gh (Gh.keep [6] rfl) ?_
    refine .ret ?_
    cases h
    exact ⟨rfl, rfl⟩
  replace h := ite_f hc h
  refine cnt (ntt (decide_eq_false hc)) ?_
  refine .seq ?_
  refine .region ?_
  refine asd ?_
  refine rn ?_
  refine .gh (Gh.keep [0, 1, 2, 6] rfl) ?_
  refine .ret ?_
  cases h
  exact ⟨rfl, rfl⟩

def slices_EqualFunc_api_Array_api_Array_api_Array_api_Array_l1 (a0 : (List Arr)) (a1 : (List Arr)) (a2 : FT_Arr_Arr__bool) (K0 : Bool → Option (Bool)) : Nat → Bool → Int → Option (Bool)
  | 0, _, _ => none
  | k + 1, s2, s3 => (if s3 < ((List.length a0 : Nat) : Int) then ((rd? a0 s3).bind fun x4 => ((rd? a1 s3).bind fun x5 => ((a2.g (x4, x5)).bind fun x6 => (if x6 = true then (slices_EqualFunc_api_Array_api_Array_api_Array_api_Array_l1 a0 a1 a2 K0 k s2 (w64 (s3 + 1))) else (some (false)))))) else (K0 s2))
def slices_EqualFunc_api_Array_api_Array_api_Array_api_Array (a0 : (List Arr)) (a1 : (List Arr)) (a2 : FT_Arr_Arr__bool) : Option (Bool) := (if ((List.length a0 : Nat) : Int) = ((List.length a1 : Nat) : Int) then (jn (fun (z1 : Bool) => (some (true))) fun K0 => (slices_EqualFunc_api_Array_api_Array_api_Array_api_Array_l1 a0 a1 a2 K0 FUEL false 0)) else (some (false)))
theorem slices_EqualFunc_api_Array_api_Array_api_Array_api_Array_ok {a0 : (List Arr)} {a1 : (List Arr)} {a2 : FT_Arr_Arr__bool} (oa2 : FO_Arr_Arr__bool a2) {r : Bool} (h : slices_EqualFunc_api_Array_api_Array_api_Array_api_Array a0 a1 a2 = some r) :
    Fn Try.prog 121 [.sl (Ars a0), .sl (Ars a1), a2.dv] (.d (.b r)) := by
  unfold slices_EqualFunc_api_Array_api_Array_api_Array_api_Array at h
  refine Fn.of (rs := [.tmp 6]) (nt := 32) Try.func121 rfl rfl rfl (by simp) rfl ?_
  refine .seq ?_
  refine .region ?_
  refine asd ?_
  refine rn ?_
  refine .gh (Gh.keep [0, 1, 2, 6] rfl) ?_
  refine .seq ?_
  refine .seq ?_
  refine .region ?_
  refine vk (vmvd) ?_
  refine vk (vlnE (Ars_length _) (Ars_sz _) gu_Ars) ?_
  refine vk (vmvd) ?_
  refine vk (vlnE (Ars_length _) (Ars_sz _) gu_Ars) ?_
  refine vk (vbi) ?_
  refine rn ?_
  refine .gh (Gh.keep [0, 1, 2, 6, 14] rfl) ?_
  by_cases hc : ((List.length a0 : Nat) : Int) = ((List.length a1 : Nat) : Int)
  · replace h := ite_t hc h
    refine cnf (ntf (decide_eq_true hc)) ?_
    refine .skip ?_
    show AW _ _ _ _ _ _
    refine .seq ?_
    refine .seq ?_
    refine .region ?_
    refine vk (vmvd) ?_
    refine vk (vlnE (Ars_length _) (Ars_sz _) gu_Ars) ?_
    refine vk (vmvd) ?_
    refine rn ?_
    refine .gh (Gh.keep [1, 2, 6, 15, 16, 17] rfl) ?_
    obtain ⟨K0, hK0, h⟩ := jn_out h
    refine AW.mr (σ := Bool) (fun p => K0 p = some r) (fun p => [(6, .d (.b p))]) (fun p => []) ?_ ?_
    · skip
      refine .block ?_
      refine .loop (.gh (Gh.keep [1, 2, 6, 15, 16, 17] rfl) ?_)
      refine AL.ind (σ := Nat × Bool × Int) (m := fun p => p.1) (e := fun p => [(1, .d (.sl (Ars a1))), (2, .d (a2.dv)), (6, .d (.b p.2.1)), (15, .d (.sl (Ars a0))), (16, .d (.i .i64 ((List.length a0 : Nat) : Int))), (17, .d (.i .i64 p.2.2))]) (h := fun p => []) (I := fun p => slices_EqualFunc_api_Array_api_Array_api_Array_api_Array_l1 a0 a1 a2 K0 p.1 p.2.1 p.2.2 = some r) ?_ (FUEL, false, 0) h
      rintro ⟨k, s2, s3⟩ h ih
      dsimp only at h ih ⊢
      rcases k with _ | k
      · rw [slices_EqualFunc_api_Array_api_Array_api_Array_api_Array_l1] at h; cases h
      rw [slices_EqualFunc_api_Array_api_Array_api_Array_api_Array_l1] at h
      refine .seq ?_
      refine .region ?_
      refine vk (vbi) ?_
      refine rn ?_
      refine .gh (Gh.keep [1, 2, 6, 15, 16, 17, 18] rfl) ?_
      refine .seq ?_
      by_cases hc : s3 < ((List.length a0 : Nat) : Int)
      · replace h := ite_t hc h
        refine cnt (decide_eq_true hc) ?_
        refine .skip ?_
        show AW _ _ _ _ _ _
        refine .seq ?_
        refine .block ?_
        refine .seq ?_
        refine .region ?_
        refine vk (vmvd) ?_
        obtain ⟨x4, hx4, h⟩ := bnd h
        obtain ⟨nx4, hnx4, hxx4⟩ := rd_some hx4
        refine vk (vix nx4 hnx4 (Ars_at hxx4) rfl gs_Ars) ?_
        refine vk (vlda gA_Arr gS_Arr) ?_
        refine vk (van (zero_of gI_Arr) gZ_Arr) ?_
        refine asd ?_
        refine stn ?_ gS_Arr (by decide)
        refine rn ?_
        refine .gh (Gh.keep [1, 2, 6, 7, 8, 15, 16, 17] rfl) ?_
        refine .seq ?_
        refine .region ?_
        refine vk (vmvd) ?_
        refine vk (vmvd) ?_
        obtain ⟨x5, hx5, h⟩ := bnd h
        obtain ⟨nx5, hnx5, hxx5⟩ := rd_some hx5
        refine vk (vix nx5 hnx5 (Ars_at hxx5) rfl gs_Ars) ?_
        refine vk (vlda gA_Arr gS_Arr) ?_
        refine vk (van (zero_of gI_Arr) gZ_Arr) ?_
        refine stn ?_ gS_Arr (by decide)
        refine rn ?_
        refine .gh (Gh.keep [1, 2, 6, 8, 9, 15, 16, 17] rfl) ?_
        refine .seq ?_
        refine .region ?_
        refine vk (vmvd) ?_
        refine vk (vldn gA_Arr gS_Arr) ?_
        refine vk (vldn gA_Arr gS_Arr) ?_
        obtain ⟨x6, hx6, h⟩ := bnd h
        refine vk (vclv (oa2 _ _ hx6)) ?_
        refine vk (vnt) ?_
        refine rn ?_
        refine .gh (Gh.keep [1, 2, 6, 15, 16, 17, 30] rfl) ?_
        by_cases hc : x6 = true
        · replace h := ite_t hc h
          refine cnf (ntf hc) ?_
          refine .skip ?_
          show AW _ _ _ _ _ _
          refine .region ?_
          refine vk (vbi) ?_
          refine vk (vmvd) ?_
          refine .nil ?_
          refine AL.gh (Gh.keep [1, 2, 6, 15, 16, 17] rfl) ?_
          exact ih (k, s2, (w64 (s3 + 1))) h (Nat.lt_succ_self _)
        replace h := ite_f hc h
        refine cnt (ntt (bf hc)) ?_
        refine .seq ?_
        refine .region ?_
        refine asd ?_
        refine rn ?_
        refine .gh (Gh.keep [1, 2, 6, 15, 16, 17] rfl) ?_
        refine .ret ?_
        cases h
        exact ⟨rfl, rfl⟩
      replace h := ite_f hc h
      refine cnf (decide_eq_false hc) ?_
      refine .gh (Gh.keep [6] rfl) ?_
      refine .exit ?_
      exact jr (s2) h
    rintro z1 h
    try dsimp only at h ⊢
    subst hK0
    show AW _ _ _ _ _ _
    refine .seq ?_
    refine .region ?_
    refine asd ?_
    refine rn ?_
    refine .gh (Gh.keep [6] rfl) ?_
    refine .ret ?_
    cases h
    exact ⟨rfl, rfl⟩
  replace h := ite_f hc h
  refine cnt (ntt (decide_eq_false hc)) ?_
  refine .seq ?_
  refine .region ?_
  refine asd ?_
  refine rn ?_
  refine .gh (Gh.keep [0, 1, 2, 6] rfl) ?_
  refine .ret ?_
  cases h
  exact ⟨rfl, rfl⟩

def ar_equal1 (rc_array_equal : Arr → Arr → Option (Bool)) (a0 : Itm) (a1 : Itm) : Option (Bool) := (if a0.kind = a1.kind then (Option.bind ((if a0.char = a1.char then (if (a0.num.1 == a1.num.1) = true then ((sEqualL a0.num.2.1 a1.num.2.1).bind fun x2 => (if x2 = true then ((sEqualL a0.num.2.2 a1.num.2.2).bind fun x3 => (if x3 = true then ((slices_EqualFunc_api_Array_api_Array_api_Array_api_Array a0.box a1.box (⟨.fn 87 [] [], fun x => rc_array_equal x.1 x.2⟩ : FT_Arr_Arr__bool)).bind fun x4 => (some x4)) else (some false))) else (some false))) else (some false)) else (some false)) : Option (Bool)) fun (z1 : Bool) => (some (z1))) else (some (false)))
theorem ar_equal1_ok {rc_array_equal : Arr → Arr → Option (Bool)} (orc_array_equal : ∀ x0 x1 r, rc_array_equal x0 x1 = some r → Fn Try.prog 87 [.ag [.sl (Is x0.shape), .sl (Its x0.items)], .ag [.sl (Is x1.shape), .sl (Its x1.items)]] (.d (.b r))) {a0 : Itm} {a1 : Itm} {r : Bool} (h : ar_equal1 rc_array_equal a0 a1 = some r) :
    Fn Try.prog 120 [.ag [.i .u8 a0.kind, .b a0.num.1, .sl (L a0.num.2.1), .sl (L a0.num.2.2), .i .i32 a0.char, .sl (Ars a0.box)], .ag [.i .u8 a1.kind, .b a1.num.1, .sl (L a1.num.2.1), .sl (L a1.num.2.2), .i .i32 a1.char, .sl (Ars a1.box)]] (.d (.b r)) := by
  unfold ar_equal1 at h
  refine Fn.of (rs := [.tmp 4]) (nt := 50) Try.func120 rfl rfl rfl (by simp) rfl ?_
  refine .seq ?_
  refine .region ?_
  refine vk (vbx) ?_
  refine vk (vbx) ?_
  refine asd ?_
  refine rn ?_
  refine .gh (Gh.keep [2, 3, 4] rfl) ?_
  refine .seq ?_
  refine .seq ?_
  refine .region ?_
  refine vk (vfa gF_Itm_0) ?_
  refine vk (vldp ga_ItemKind) ?_
  refine rn ?_
  refine .gh (Gh.keep [2, 3, 4, 6] rfl) ?_
  refine .block ?_
  refine .seq ?_
  refine .region ?_
  refine vk (vfa gF_Itm_0) ?_
  refine vk (vldp ga_ItemKind) ?_
  refine vk (vbi) ?_
  refine asd ?_
  refine rn ?_
  refine .gh (Gh.keep [2, 3, 4, 7] rfl) ?_
  by_cases hc : a0.kind = a1.kind
  · replace h := ite_t hc h
    refine cnt (decide_eq_true hc) ?_
    refine .seq ?_
    obtain ⟨z1, hz, h⟩ := bnd h
    refine AW.mr (σ := Unit) (fun _ => True) (fun _ => [(4, .d (.b z1))]) (fun _ => []) ?_ ?_
    · skip
      refine .region ?_
      refine vk (vfa gF_Itm_2) ?_
      refine vk (vldp ga_int32) ?_
      refine vk (vfa gF_Itm_2) ?_
      refine vk (vldp ga_int32) ?_
      refine vk (vbi) ?_
      by_cases hc : a0.char = a1.char
      · replace hz := ite_t hc hz
        have hb0 : (decide (a0.char = a1.char)) = true := (decide_eq_true hc)
        refine vk (VOK.lit (vmvd) hb0) ?_
        refine vk (vfa gF_Itm_1) ?_
        refine vk (vfa gF_R_0) ?_
        refine vk (vldp ga_bool) ?_
        refine vk (vfa gF_Itm_1) ?_
        refine vk (vfa gF_R_0) ?_
        refine vk (vldp ga_bool) ?_
        refine vk (vbbn (.inl rfl) bo) ?_
        refine vk (vpkd) ?_
        by_cases hc : (a0.num.1 == a1.num.1) = true
        · replace hz := ite_t hc hz
          have hb1 : (a0.num.1 == a1.num.1) = true := hc
          refine vk (VOK.lit (vmvd) hb1) ?_
          refine vk (vfa gF_Itm_1) ?_
          refine vk (vfa gF_R_1) ?_
          refine vk (vldp ga_L) ?_
          refine vk (vfa gF_Itm_1) ?_
          refine vk (vfa gF_R_1) ?_
          refine vk (vldp ga_L) ?_
          obtain ⟨x2, hx2, hz⟩ := bnd hz
          refine vk (vcl0 (sEqualL_ok hx2) Try.call113) ?_
          refine vk (vpkd) ?_
          by_cases hc : x2 = true
          · replace hz := ite_t hc hz
            have hb2 : x2 = true := hc
            refine vk (VOK.lit (vmvd) hb2) ?_
            refine vk (vfa gF_Itm_1) ?_
            refine vk (vfa gF_R_2) ?_
            refine vk (vldp ga_L) ?_
            refine vk (vfa gF_Itm_1) ?_
            refine vk (vfa gF_R_2) ?_
            refine vk (vldp ga_L) ?_
            obtain ⟨x3, hx3, hz⟩ := bnd hz
            refine vk (vcl0 (sEqualL_ok hx3) Try.call113) ?_
            refine vk (vpkd) ?_
            by_cases hc : x3 = true
            · replace hz := ite_t hc hz
              have hb3 : x3 = true := hc
              refine vk (VOK.lit (vmvd) hb3) ?_
              refine vk (vfa gF_Itm_3) ?_
              refine vk (vldp ga_Ars) ?_
              refine vk (vfa gF_Itm_3) ?_
              refine vk (vldp ga_Ars) ?_
              obtain ⟨x4, hx4, hz⟩ := bnd hz
              refine vk (vcl0 (slices_EqualFunc_api_Array_api_Array_api_Array_api_Array_ok (FWOK Try.call87 (fun _ _ h => orc_array_equal _ _ _ h)) hx4) Try.call121) ?_
              refine vk (vpkd) ?_
              refine asd ?_
              refine RL.gh (Gh.keep [4] rfl) ?_
              refine .nil ?_
              cases hz
              exact jr () trivial
            replace hz := ite_f hc hz
            have hb3 : x3 = false := (bf hc)
            refine vk (VOK.lit (vmvd) hb3) ?_
            refine gf ?_
            refine gf ?_
            refine gf ?_
            refine gf ?_
            refine gf ?_
            refine vk (vpkd) ?_
            refine asd ?_
            refine RL.gh (Gh.keep [4] rfl) ?_
            refine .nil ?_
            cases hz
            exact jr () trivial
          replace hz := ite_f hc hz
          have hb2 : x2 = false := (bf hc)
          refine vk (VOK.lit (vmvd) hb2) ?_
          refine gf ?_
          refine gf ?_
          refine gf ?_
          refine gf ?_
          refine gf ?_
          refine gf ?_
          refine gf ?_
          refine vk (vpkd) ?_
          refine vk (vmvd) ?_
          refine gf ?_
          refine gf ?_
          refine gf ?_
          refine gf ?_
          refine gf ?_
          refine vk (vpkd) ?_
          refine asd ?_
          refine RL.gh (Gh.keep [4] rfl) ?_
          refine .nil ?_
          cases hz
          exact jr () trivial
        replace hz := ite_f hc hz
        have hb1 : (a0.num.1 == a1.num.1) = false := (bf hc)
        refine vk (VOK.lit (vmvd) hb1) ?_
        refine gf ?_
        refine gf ?_
        refine gf ?_
        refine gf ?_
        refine gf ?_
        refine gf ?_
        refine gf ?_
        refine vk (vpkd) ?_
        refine vk (vmvd) ?_
        refine gf ?_
        refine gf ?_
        refine gf ?_
        refine gf ?_
        refine gf ?_
        refine gf ?_
        refine gf ?_
        refine vk (vpkd) ?_
        refine vk (vmvd) ?_
        refine gf ?_
        refine gf ?_
        refine gf ?_
        refine gf ?_
        refine gf ?_
        refine vk (vpkd) ?_
        refine asd ?_
        refine RL.gh (Gh.keep [4] rfl) ?_
        refine .nil ?_
        cases hz
        exact jr () trivial
      replace hz := ite_f hc hz
      have hb0 : (decide (a0.char = a1.char)) = false := (decide_eq_false hc)
      refine vk (VOK.lit (vmvd) hb0) ?_
      refine gf ?_
      refine gf ?_
      refine gf ?_
      refine gf ?_
      refine gf ?_
      refine gf ?_
      refine gf ?_
      refine vk (vpkd) ?_
      refine vk (vmvd) ?_
      refine gf ?_
      refine gf ?_
      refine gf ?_
      refine gf ?_
      refine gf ?_
      refine gf ?_
      refine gf ?_
      refine vk (vpkd) ?_
      refine vk (vmvd) ?_
      refine gf ?_
      refine gf ?_
      refine gf ?_
      refine gf ?_
      refine gf ?_
      refine gf ?_
      refine gf ?_
      refine vk (vpkd) ?_
      refine vk (vmvd) ?_
      refine gf ?_
      refine gf ?_
      refine gf ?_
      refine gf ?_
      refine gf ?_
      refine vk (vpkd) ?_
      refine asd ?_
      refine RL.gh (Gh.keep [4] rfl) ?_
      refine .nil ?_
      cases hz
      exact jr () trivial
    rintro _ _
    refine .ret ?_
    cases h
    exact ⟨rfl, rfl⟩
  replace h := ite_f hc h
  refine cnf (decide_eq_false hc) ?_
  refine .skip ?_
  show AW _ _ _ _ _ _
  refine .seq ?_
  refine .region ?_
  refine asd ?_
  refine rn ?_
  refine .gh (Gh.keep [4] rfl) ?_
  refine .ret ?_
  cases h
  exact ⟨rfl, rfl⟩

def ar_equalB (rc_array_equal : Arr → Arr → Option (Bool)) (a0 : Arr) (a1 : Arr) : Option (Bool) := ((slices_Equal_int_int a0.shape a1.shape).bind fun x1 => (Option.bind ((if x1 = true then ((slices_EqualFunc_api_Item_api_Item_api_Item_api_Item a0.items a1.items (⟨.fn 120 [] [], fun x => ar_equal1 rc_array_equal x.1 x.2⟩ : FT_Itm_Itm__bool)).bind fun x3 => (some x3)) else (some false)) : Option (Bool)) fun (z1 : Bool) => (some (z1))))
theorem ar_equalB_ok {rc_array_equal : Arr → Arr → Option (Bool)} (orc_array_equal : ∀ x0 x1 r, rc_array_equal x0 x1 = some r → Fn Try.prog 87 [.ag [.sl (Is x0.shape), .sl (Its x0.items)], .ag [.sl (Is x1.shape), .sl (Its x1.items)]] (.d (.b r))) {a0 : Arr} {a1 : Arr} {r : Bool} (h : ar_equalB rc_array_equal a0 a1 = some r) :
    Fn Try.prog 87 [.ag [.sl (Is a0.shape), .sl (Its a0.items)], .ag [.sl (Is a1.shape), .sl (Its a1.items)]] (.d (.b r)) := by
  unfold ar_equalB at h
  refine Fn.of (rs := [.tmp 4]) (nt := 17) Try.func87 rfl rfl rfl (by simp) rfl ?_
  refine .seq ?_
  refine .region ?_
  refine vk (vbx) ?_
  refine vk (vbx) ?_
  refine asd ?_
  refine rn ?_
  refine .gh (Gh.keep [2, 3, 4] rfl) ?_
  refine .seq ?_
  obtain ⟨x1, hx1, h⟩ := bnd h
  obtain ⟨z1, hz, h⟩ := bnd h
  refine AW.mr (σ := Unit) (fun _ => True) (fun _ => [(4, .d (.b z1))]) (fun _ => []) ?_ ?_
  · skip
    refine .region ?_
    refine vk (vfa gF_Arr_0) ?_
    refine vk (vldp ga_Is) ?_
    refine vk (vfa gF_Arr_0) ?_
    refine vk (vldp ga_Is) ?_
    refine vk (vcl0 (slices_Equal_int_int_ok hx1) Try.call118) ?_
    by_cases hc : x1 = true
    · replace hz := ite_t hc hz
      have hb0 : x1 = true := hc
      refine vk (VOK.lit (vmvd) hb0) ?_
      refine vk (vfa gF_Arr_1) ?_
      refine vk (vldp ga_Its) ?_
      refine vk (vfa gF_Arr_1) ?_
      refine vk (vldp ga_Its) ?_
      obtain ⟨x3, hx3, hz⟩ := bnd hz
      refine vk (vcl0 (slices_EqualFunc_api_Item_api_Item_api_Item_api_Item_ok (FWOK Try.call120 (fun _ _ h => ar_equal1_ok orc_array_equal h)) hx3) Try.call119) ?_
      refine vk (vpkd) ?_
      refine asd ?_
      refine RL.gh (Gh.keep [4] rfl) ?_
      refine .nil ?_
      cases hz
      exact jr () trivial
    replace hz := ite_f hc hz
    have hb0 : x1 = false := (bf hc)
    refine vk (VOK.lit (vmvd) hb0) ?_
    refine gf ?_
    refine gf ?_
    refine gf ?_
    refine gf ?_
    refine gf ?_
    refine vk (vpkd) ?_
    refine asd ?_
    refine RL.gh (Gh.keep [4] rfl) ?_
    refine .nil ?_
    cases hz
    exact jr () trivial
  rintro _ _
  refine .ret ?_
  cases h
  exact ⟨rfl, rfl⟩

def ar_equal_r : Nat → Arr → Arr → Option (Bool)
  | 0, _, _ => none
  | k + 1, a0, a1 => ar_equalB (ar_equal_r k) a0 a1
theorem ar_equal_r_ok : ∀ (k : Nat) (a0 : Arr) (a1 : Arr) (r : Bool), ar_equal_r k a0 a1 = some r → Fn Try.prog 87 [.ag [.sl (Is a0.shape), .sl (Its a0.items)], .ag [.sl (Is a1.shape), .sl (Its a1.items)]] (.d (.b r))
  | 0, _, _, _, h => by cases h
  | k + 1, a0, a1, _, h => ar_equalB_ok (ar_equal_r_ok k) (show ar_equalB (ar_equal_r k) a0 a1 = some _ from h)
def ar_equal (a0 : Arr) (a1 : Arr) : Option (Bool) := ar_equal_r (a0.size + 1) a0 a1
theorem ar_equal_ok {a0 : Arr} {a1 : Arr} {r : Bool} (h : ar_equal a0 a1 = some r) : Fn Try.prog 87 [.ag [.sl (Is a0.shape), .sl (Its a0.items)], .ag [.sl (Is a1.shape), .sl (Its a1.items)]] (.d (.b r)) := ar_equal_r_ok _ a0 a1 r h
end Go.FL
/-
  Plain laws, rat 1: right numbers are the rationals that fit.
-/
namespace Go.FL
open Go Go.Proofs

abbrev sg (b : Bool) (n : Nat) : Int := if b = true then -(n : Int) else n
def ofQ (p : Rat) : RT := (decide (p.num < 0), digs p.num.natAbs, digs p.den)
def small (n : Nat) : Prop := (digs n).length ≤ 32
instance (n : Nat) : Decidable (small n) := inferInstanceAs (Decidable (_ ≤ _))
def fits (p : Rat) : Prop := small p.num.natAbs ∧ small p.den
instance (p : Rat) : Decidable (fits p) := inferInstanceAs (Decidable (_ ∧ _))
theorem sg_natAbs (b : Bool) (n : Nat) : (sg b n).natAbs = n := by cases b <;> simp [sg]
theorem sg_neg (b : Bool) (n : Nat) : decide (sg b n < 0) = (b && decide (n ≠ 0)) := by
  cases b with
  | false => simp [sg]
  | true => simp only [sg, if_true, Bool.true_and]; apply decide_eq_decide.2; omega
/-- A rational, as its parts. -/
abbrev q3 (p : Rat) : Q3 := (decide (p.num < 0), p.num.natAbs, p.den)
theorem right_iff {r : RT} : rightR r = true ↔ ∃ p, fits p ∧ r = ofQ p := by
  obtain ⟨b, n, d⟩ := r
  simp only [rightR, rightL, decide_eq_true_eq]
  constructor
  · rintro ⟨h1, h2, h3, h4, h5, h6, h7⟩
    have hd0 : val d ≠ 0 := fun h => h5 (by rw [← h2, h, digs_zero])
    refine ⟨⟨sg b (val n), val d, hd0, by rw [Nat.Coprime, sg_natAbs]; exact h7⟩, ⟨?_, ?_⟩, ?_⟩
    · show small (sg b (val n)).natAbs
      rw [sg_natAbs, small, h1]; exact h3
    · show small (val d)
      rw [small, h2]; exact h4
    · simp only [ofQ, sg_natAbs, h1, h2]
      rw [sg_neg]
      congr 1
      cases b with
      | false => rfl
      | true =>
        have : n ≠ [] := fun h => by have := h6 h; cases this
        have hn0 : val n ≠ 0 := fun h => this (by rw [← h1, h, digs_zero])
        simp [hn0]
  · rintro ⟨p, ⟨h1, h2⟩, h⟩
    simp only [ofQ, Prod.mk.injEq] at h
    obtain ⟨rfl, rfl, rfl⟩ := h
    refine ⟨by rw [val_digs], by rw [val_digs], h1, h2, ?_, ?_, ?_⟩
    · intro h
      have := digs_nil_iff.1 h
      exact p.den_nz this
    · intro h
      have := digs_nil_iff.1 h
      exact decide_eq_false (by omega)
    · rw [val_digs, val_digs]; exact p.reduced
theorem ofQ_right {p : Rat} (h : fits p) : rightR (ofQ p) = true := right_iff.2 ⟨p, h, rfl⟩
theorem okL_digs {k n : Nat} (h : (digs n).length ≤ k) : okL k (digs n) = true := okL_iff.2 ⟨digs_ok n, h⟩
theorem small_ok {k n : Nat} (h : small n) (hk : 32 ≤ k) : okL k (digs n) = true := okL_digs (Nat.le_trans h hk)
theorem ofQ_okRB {p : Rat} (h : fits p) : okRB (ofQ p) = true := by
  simp only [okRB, Bool.and_eq_true]
  exact ⟨small_ok h.1 (by decide), small_ok h.2 (by decide)⟩
theorem fits_zero : fits 0 := by
  have e0 : digs 0 = [] := digs_zero
  have e1 : digs 1 = [1] := one_limb (n := 1) (by decide) (by decide)
  constructor
  · show (digs 0).length ≤ 32; rw [e0]; decide
  · show (digs 1).length ≤ 32; rw [e1]; decide
theorem one_digs : digs 1 = [1] := one_limb (n := 1) (by decide) (by decide)
end Go.FL
/-
  GP: rat: comparisons, residues, powers, texts.
-/
namespace Go.FL
open Go Go.Proofs

end Go.FL
/-
  Plain laws, rat 2: sums, differences, products, quotients, as the program reckons them.
-/
namespace Go.FL
open Go Go.Proofs

theorem w64_eq {z : Int} (h1 : -9223372036854775808 ≤ z) (h2 : z ≤ 9223372036854775807) : w64 z = z := wrap64 h1 h2
theorem ratRight_eq {r : RT} (h : okRB r = true) : ratRight r = some (rightR r) := if_pos h
theorem ref2Right_eq {r : RT} (h : okRB r = true) : ref2Right r = some (rightR r) := if_pos h
theorem ratOne_eq : ratOne = some [1] := if_pos trivial
theorem ref2One_eq : ref2One = some [1] := if_pos trivial
/-- Parts that are not too great. -/
def sm (k : Nat) (x : Q3) : Prop := (digs x.2.1).length ≤ k ∧ (digs x.2.2).length ≤ k
theorem ofInt_q {z : Int} (h1 : -9223372036854775808 ≤ z) (h2 : z ≤ 9223372036854775807) : ratOfInt z = some (ofQ z) := by
  have : ratOfInt z = some (decide (z < 0), digs z.natAbs, [1]) := if_pos ⟨h1, h2⟩
  rw [this]
  show _ = some (decide (z < 0), digs z.natAbs, digs 1)
  rw [one_digs]
theorem fits_int {z : Int} (h1 : -9223372036854775808 ≤ z) (h2 : z ≤ 9223372036854775808) : fits (z : Rat) := by
  constructor
  · show (digs z.natAbs).length ≤ 32
    exact Nat.le_trans (digs_len (k := 3) (by omega)) (by decide)
  · show (digs 1).length ≤ 32
    rw [one_digs]; decide
end Go.FL
/-
  Plain laws of arrays, 0: what arrays memory may hold; sizes; copies; equal arrays.
-/
namespace Go.FL
open Go Go.Proofs

mutual
/-- An item, an array that memory may hold. -/
def okI : Itm → Prop
  | .mk k n c b => (0 ≤ k ∧ k < 256) ∧ okRB n = true ∧ (-2147483648 ≤ c ∧ c < 2147483648) ∧ b.length ≤ 2932031007402 ∧ okAs b
def okAr : Arr → Prop
  | .mk s i => (∀ z ∈ s, -9223372036854775808 ≤ z ∧ z ≤ 9223372036854775807) ∧ s.length ≤ 17592186044416 ∧ i.length ≤ 1466015503701 ∧ okIs i
def okIs : List Itm → Prop
  | [] => True
  | x :: xs => okI x ∧ okIs xs
def okAs : List Arr → Prop
  | [] => True
  | x :: xs => okAr x ∧ okAs xs
end
theorem okIs_mem : ∀ {xs : List Itm}, okIs xs ↔ ∀ x ∈ xs, okI x
  | [] => by simp [okIs]
  | x :: xs => by simp [okIs, okIs_mem (xs := xs)]
theorem okAs_mem : ∀ {xs : List Arr}, okAs xs ↔ ∀ x ∈ xs, okAr x
  | [] => by simp [okAs]
  | x :: xs => by simp [okAs, okAs_mem (xs := xs)]
theorem okI_iff (x : Itm) : okI x ↔ (0 ≤ x.kind ∧ x.kind < 256) ∧ okRB x.num = true ∧ (-2147483648 ≤ x.char ∧ x.char < 2147483648) ∧ x.box.length ≤ 2932031007402 ∧ ∀ a ∈ x.box, okAr a := by
  cases x; simp only [okI, okAs_mem, Itm.kind, Itm.num, Itm.char, Itm.box]
theorem okAr_iff (a : Arr) : okAr a ↔ (∀ z ∈ a.shape, -9223372036854775808 ≤ z ∧ z ≤ 9223372036854775807) ∧ a.shape.length ≤ 17592186044416 ∧ a.items.length ≤ 1466015503701 ∧ ∀ x ∈ a.items, okI x := by
  cases a; simp only [okAr, okIs_mem, Arr.shape, Arr.items]
theorem size_item : ∀ {xs : List Itm} {x : Itm}, x ∈ xs → x.size ≤ itsSize xs
  | y :: xs, x, h => by
    rw [itsSize]
    rcases List.mem_cons.1 h with rfl | h
    · omega
    · have := size_item h; omega
theorem size_arr : ∀ {xs : List Arr} {x : Arr}, x ∈ xs → x.size ≤ arsSize xs
  | y :: xs, x, h => by
    rw [arsSize]
    rcases List.mem_cons.1 h with rfl | h
    · omega
    · have := size_arr h; omega
theorem size_in {a : Arr} {x : Itm} (h : x ∈ a.items) : x.size < a.size := by
  cases a; have := size_item (xs := _) h; simp only [Arr.size, Arr.items] at *; omega
theorem size_box {x : Itm} {a : Arr} (h : a ∈ x.box) : a.size < x.size := by
  cases x; have := size_arr (xs := _) h; simp only [Itm.size, Itm.box] at *; omega
theorem fuel_gt {n : Nat} (h : n ≤ 140737488355328) : n < FUEL := by unfold FUEL; omega
theorem w64_nat {i : Nat} (h : i ≤ 9223372036854775806) : w64 ((i : Int) + 1) = ((i + 1 : Nat) : Int) := by rw [w64_eq (by omega) (by omega)]; omega
theorem rd_at {α : Type} {xs : List α} {i : Nat} {x : α} (h : xs[i]? = some x) : rd? xs (i : Int) = some x := by
  rw [rd?, if_pos (by omega)]; simpa using h
theorem rd_get {α : Type} {xs : List α} {i : Nat} (h : i < xs.length) : rd? xs (i : Int) = some xs[i] := rd_at (List.getElem?_eq_getElem h)
theorem ap_eq {α : Type} {m : Nat} {xs ys : List α} (h : xs.length + ys.length ≤ m) : ap? m xs ys = some (xs ++ ys) := if_pos h
theorem rd_0 {α : Type} {x : α} {xs : List α} : rd? (x :: xs) 0 = some x := rfl

/-! ### finding -/
theorem idxInt_loop {xs : List Int} {f : FT_int__bool} {p : Int → Bool} (hf : ∀ x ∈ xs, f.g x = some (p x)) (K : Int → Option Int) (hl : xs.length ≤ 17592186044416) : ∀ (n i k : Nat) (s : Int), n = xs.length - i → i ≤ xs.length → n < k →
    slices_IndexFunc_int_int_l1 xs f K k s (i : Int) = match (xs.drop i).findIdx? p with | some j => some (((i + j : Nat)) : Int) | none => K s
  | n, i, 0, s, _, _, h => by omega
  | n, i, k + 1, s, hn, hi, hk => by
    rw [slices_IndexFunc_int_int_l1]
    by_cases hlt : i < xs.length
    · rw [if_pos (by omega), rd_get hlt, Option.bind_some, hf _ (List.getElem_mem _), Option.bind_some, List.drop_eq_getElem_cons hlt, List.findIdx?_cons]
      by_cases hp : p xs[i] = true
      · rw [if_pos hp, if_pos hp]; rfl
      · rw [if_neg hp, if_neg hp, w64_nat (by omega), idxInt_loop hf K hl (n - 1) (i + 1) k s (by omega) (by omega) (by omega)]
        cases (xs.drop (i + 1)).findIdx? p with
        | none => rfl
        | some j => simp only [Option.map_some]; congr 1; omega
    · rw [if_neg (by omega), List.drop_of_length_le (by omega)]; rfl
theorem containsFuncInt {xs : List Int} {f : FT_int__bool} {p : Int → Bool} (hf : ∀ x ∈ xs, f.g x = some (p x)) (hl : xs.length ≤ 17592186044416) : slices_ContainsFunc_int_int xs f = some (xs.any p) := by
  unfold slices_ContainsFunc_int_int slices_IndexFunc_int_int
  simp only [jn]
  have := idxInt_loop hf (fun _ => some (-1)) hl xs.length 0 FUEL 0 rfl (Nat.zero_le _) (fuel_gt (by omega))
  rw [List.drop_zero] at this
  rw [show ((0 : Nat) : Int) = 0 from rfl] at this
  rw [this]
  cases h : xs.findIdx? p with
  | none =>
    rw [Option.bind_some]
    rw [List.findIdx?_eq_none_iff] at h
    rw [show (xs.any p) = false by rw [List.any_eq_false]; intro x hx; simp [h x hx]]
    rfl
  | some j =>
    rw [Option.bind_some]
    rw [List.findIdx?_eq_some_iff_getElem] at h
    obtain ⟨hj, h1, _⟩ := h
    rw [show (xs.any p) = true by rw [List.any_eq_true]; exact ⟨_, List.getElem_mem hj, h1⟩]
    simp
theorem idxInt2_loop {xs : List Int} {v : Int} (K : Int → Option Int) (hl : xs.length ≤ 17592186044416) : ∀ (n i k : Nat) (s : Int), n = xs.length - i → i ≤ xs.length → n < k →
    slices_Index_int_int_l1 xs v K k s (i : Int) = match (xs.drop i).findIdx? (fun x => decide (v = x)) with | some j => some (((i + j : Nat)) : Int) | none => K s
  | n, i, 0, s, _, _, h => by omega
  | n, i, k + 1, s, hn, hi, hk => by
    rw [slices_Index_int_int_l1]
    by_cases hlt : i < xs.length
    · rw [if_pos (by omega), rd_get hlt, Option.bind_some, List.drop_eq_getElem_cons hlt, List.findIdx?_cons]
      by_cases hp : v = xs[i]
      · rw [if_pos hp, if_pos (decide_eq_true hp)]; rfl
      · rw [if_neg hp, if_neg (by simp [hp]), w64_nat (by omega), idxInt2_loop K hl (n - 1) (i + 1) k s (by omega) (by omega) (by omega)]
        cases (xs.drop (i + 1)).findIdx? (fun x => decide (v = x)) with
        | none => rfl
        | some j => simp only [Option.map_some]; congr 1; omega
    · rw [if_neg (by omega), List.drop_of_length_le (by omega)]; rfl
theorem containsInt {xs : List Int} {v : Int} (hl : xs.length ≤ 17592186044416) : slices_Contains_int_int xs v = some (decide (v ∈ xs)) := by
  unfold slices_Contains_int_int slices_Index_int_int
  simp only [jn]
  have := idxInt2_loop (v := v) (fun _ => some (-1)) hl xs.length 0 FUEL 0 rfl (Nat.zero_le _) (fuel_gt (by omega))
  rw [List.drop_zero] at this
  rw [show ((0 : Nat) : Int) = 0 from rfl] at this
  rw [this]
  cases h : xs.findIdx? (fun x => decide (v = x)) with
  | none =>
    rw [Option.bind_some]
    rw [List.findIdx?_eq_none_iff] at h
    rw [show decide (v ∈ xs) = false by rw [decide_eq_false_iff_not]; intro hx; have := h v hx; simp at this]
    rfl
  | some j =>
    rw [Option.bind_some]
    rw [List.findIdx?_eq_some_iff_getElem] at h
    obtain ⟨hj, h1, _⟩ := h
    rw [show decide (v ∈ xs) = true by rw [decide_eq_true_eq]; rw [decide_eq_true_eq] at h1; rw [h1]; exact List.getElem_mem hj]
    simp

/-! ### sizes -/
def prodZ (s : List Int) : Int := s.foldl (· * ·) 1
/-- How many items a shape has, and the error. -/
def szP (s : List Int) : Int × Int :=
  if 8 < s.length then (0, 4) else if s.any (fun n => decide (n < 0)) then (0, 3) else if s.any (fun n => decide (4096 < n)) then (0, 8) else if 0 ∈ s then (0, 0) else if prodZ s ≤ 4096 then (prodZ s, 0) else (0, 8)
theorem foldl_mul (s : List Int) : ∀ n : Int, s.foldl (· * ·) n = n * s.foldl (· * ·) 1 := by
  induction s with
  | nil => intro n; simp
  | cons x xs ih => intro n; rw [List.foldl_cons, List.foldl_cons, ih (n * x), ih (1 * x), Int.one_mul, Int.mul_assoc]
theorem prodZ_pos {s : List Int} (h : ∀ x ∈ s, 1 ≤ x) : 1 ≤ prodZ s := by
  induction s with
  | nil => exact Int.le_refl _
  | cons x xs ih =>
    have h1 := h x (by simp)
    have h2 := ih fun y hy => h y (by simp [hy])
    unfold prodZ at *
    rw [List.foldl_cons, foldl_mul, Int.one_mul]
    exact Int.le_trans (by omega : (1 : Int) ≤ 1 * 1) (Int.mul_le_mul h1 h2 (by omega) (by omega))
theorem size_loop {s : List Int} (hl : s.length ≤ 8) (hp : ∀ x ∈ s, 1 ≤ x ∧ x ≤ 4096) (K : Int → Int → Int → Option (Int × Int)) : ∀ (n i k : Nat) (a b m : Int), n = s.length - i → i ≤ s.length → n < k → 1 ≤ m → m ≤ 4096 →
    array_Size_l1 s K k a b m (i : Int) = if m * prodZ (s.drop i) ≤ 4096 then K a b (m * prodZ (s.drop i)) else some (0, 8)
  | n, i, 0, a, b, m, _, _, h, _, _ => by omega
  | n, i, k + 1, a, b, m, hn, hi, hk, h1, h2 => by
    rw [array_Size_l1]
    by_cases hlt : i < s.length
    · rw [if_pos (by omega), rd_get hlt, Option.bind_some, grd?, if_pos (by omega), Option.bind_some, List.drop_eq_getElem_cons hlt]
      have hx := hp s[i] (List.getElem_mem _)
      have hq0 : 0 ≤ Int.tdiv 4096 m := Int.tdiv_nonneg (by omega) (by omega)
      have hq1 : Int.tdiv 4096 m ≤ 4096 := by rw [Int.tdiv_eq_ediv_of_nonneg (by omega)]; exact Int.ediv_le_self _ (by omega)
      rw [w64_eq (by omega) (by omega)]
      have hpos : 1 ≤ prodZ (s.drop (i + 1)) := prodZ_pos fun x hx => (hp x (List.mem_of_mem_drop hx)).1
      have hprod : prodZ (s[i] :: s.drop (i + 1)) = s[i] * prodZ (s.drop (i + 1)) := by unfold prodZ; rw [List.foldl_cons, foldl_mul, Int.one_mul]
      have hdiv : Int.tdiv 4096 m < s[i] ↔ 4096 < m * s[i] := by
        rw [Int.tdiv_eq_ediv_of_nonneg (by omega), Int.ediv_lt_iff_lt_mul (by omega), Int.mul_comm]
      rw [hprod, ← Int.mul_assoc]
      by_cases hc : 4096 < m * s[i]
      · rw [if_pos (hdiv.2 hc), if_neg]
        have : m * s[i] * 1 ≤ m * s[i] * prodZ (s.drop (i + 1)) := Int.mul_le_mul_of_nonneg_left hpos (by omega)
        omega
      · have hm1 : 1 ≤ m * s[i] := Int.le_trans (by omega : (1 : Int) ≤ 1 * 1) (Int.mul_le_mul h1 hx.1 (by omega) (by omega))
        rw [if_neg (fun h => hc (hdiv.1 h)), w64_nat (by omega), w64_eq (by omega) (by omega)]
        exact size_loop hl hp K (n - 1) (i + 1) k a b (m * s[i]) (by omega) (by omega) (by omega) hm1 (by omega)
    · rw [if_neg (by omega), List.drop_of_length_le (by omega)]
      rw [show prodZ [] = 1 from rfl, Int.mul_one, if_pos h2]
theorem Size_eq {s : List Int} (hl : s.length ≤ 17592186044416) : array_Size s = some (szP s) := by
  unfold array_Size szP
  by_cases h8 : 8 < s.length
  · rw [if_pos (by omega), if_pos h8]
  rw [if_neg (by omega), if_neg h8]
  rw [containsFuncInt (p := fun n => decide (n < 0)) (fun x _ => rfl) hl, Option.bind_some]
  by_cases h0 : s.any (fun n => decide (n < 0)) = true
  · rw [if_pos h0, if_pos h0]
  rw [if_neg h0, if_neg h0]
  rw [containsFuncInt (p := fun n => decide (4096 < n)) (fun x _ => rfl) hl, Option.bind_some]
  by_cases h1 : s.any (fun n => decide (4096 < n)) = true
  · rw [if_pos h1, if_pos h1]
  rw [if_neg h1, if_neg h1, containsInt hl, Option.bind_some]
  by_cases h2 : 0 ∈ s
  · rw [if_pos (decide_eq_true h2), if_pos h2]
  rw [if_neg (by simp [h2]), if_neg h2]
  have hp : ∀ x ∈ s, 1 ≤ x ∧ x ≤ 4096 := fun x hx => by
    simp only [List.any_eq_true, decide_eq_true_eq, not_exists, not_and] at h0 h1
    have a := h0 x hx
    have b := h1 x hx
    have c : x ≠ 0 := fun e => h2 (e ▸ hx)
    omega
  have := size_loop (by omega) hp (fun z4 z5 z6 => some (z6, 0)) s.length 0 FUEL 0 0 1 rfl (Nat.zero_le _) (fuel_gt (by omega)) (by omega) (by omega)
  rw [List.drop_zero, Int.one_mul, show ((0 : Nat) : Int) = 0 from rfl] at this
  simp only [jn]
  rw [this]
  split <;> rfl
theorem szP_le (s : List Int) : 0 ≤ (szP s).1 ∧ (szP s).1 ≤ 4096 := by
  unfold szP
  split
  · exact ⟨by decide, by decide⟩
  split
  · exact ⟨by decide, by decide⟩
  split
  · exact ⟨by decide, by decide⟩
  split
  · exact ⟨by decide, by decide⟩
  split
  · rename_i h8 h0 h1 h2 h3
    refine ⟨?_, h3⟩
    have : 1 ≤ prodZ s := prodZ_pos fun x hx => by
      simp only [List.any_eq_true, decide_eq_true_eq, not_exists, not_and] at h0 h1
      have a := h0 x hx
      have c : x ≠ 0 := fun e => h2 (e ▸ hx)
      omega
    omega
  · exact ⟨by decide, by decide⟩
end Go.FL
/-
  Arguments that are arrays, opened.
-/
namespace Go.FL
open Go Go.Proofs

section
variable {H : Type} {enc : TypeId × Value → H} {W : World}
theorem op_ints0 {n : Nat} : OpF enc Try.prog W (n + 1) 22 (fun l : List Int => [.sl (Is l)]) (fun l => (∀ z ∈ l, -9223372036854775808 ≤ z ∧ z ≤ 9223372036854775807) ∧ l.length ≤ 17592186044416) := by
  refine (op_slice (α := Int) (F := fun z => [.i .i64 z]) (sz := 1) (fun z => .i .i64 z) (by kernel_rfl : Try.prog.underlying 22 = some (.slice 3)) (by kernel_rfl) (by decide) (fun _ => rfl) (op_int (by kernel_rfl))).map fun zs hz => ?_
  refine ⟨zs, ⟨fun z h => ?_, ?_⟩, rfl⟩
  · have := hz.1 z h
    simp [Lit.wf, IntKind.min, IntKind.max, IntKind.signed, IntKind.bits] at this
    omega
  · have h3 := hz.2
    rw [show Try.prog.bytesOf 3 = 8 by kernel_rfl, show reachBytes = 140737488351232 by decide] at h3
    omega
theorem op_ints (n : Nat) : OpF enc Try.prog W n 22 (fun l : List Int => [.sl (Is l)]) (fun l => (∀ z ∈ l, -9223372036854775808 ≤ z ∧ z ≤ 9223372036854775807) ∧ l.length ≤ 17592186044416) := op_ints0.mono (Nat.le_succ n)
def cI6 (x : Itm) : List DV := [.i .u8 x.kind, .b x.num.1, .sl (L x.num.2.1), .sl (L x.num.2.2), .i .i32 x.char, .sl (Ars x.box)]
def cA2 (a : Arr) : List DV := [.sl (Is a.shape), .sl (Its a.items)]
theorem op_boxes {n : Nat} (h : OpF enc Try.prog W n 25 cA2 okAr) : OpF enc Try.prog W (n + 1) 36 (fun l : List Arr => [.sl (Ars l)]) (fun l => l.length ≤ 2932031007402 ∧ ∀ a ∈ l, okAr a) := by
  refine (op_slice (α := Arr) (F := cA2) (sz := 2) Arr.dv (by kernel_rfl : Try.prog.underlying 36 = some (.slice 25)) (by kernel_rfl) (by decide) (fun a => by rw [Arr.dv_eq]; rfl) h).map fun zs hz => ?_
  refine ⟨zs, ⟨?_, hz.1⟩, by rw [Ars_map]⟩
  have h3 := hz.2
  rw [show Try.prog.bytesOf 25 = 48 by kernel_rfl, show reachBytes = 140737488351232 by decide] at h3
  omega
theorem op_items' {n : Nat} (h : OpF enc Try.prog W n 38 cI6 okI) : OpF enc Try.prog W (n + 1) 23 (fun l : List Itm => [.sl (Its l)]) (fun l => l.length ≤ 1466015503701 ∧ ∀ x ∈ l, okI x) := by
  refine (op_slice (α := Itm) (F := cI6) (sz := 6) Itm.dv (by kernel_rfl : Try.prog.underlying 23 = some (.slice 38)) (by kernel_rfl) (by decide) (fun a => by rw [Itm.dv_eq]; rfl) h).map fun zs hz => ?_
  refine ⟨zs, ⟨?_, hz.1⟩, by rw [Its_map]⟩
  have h3 := hz.2
  rw [show Try.prog.bytesOf 38 = 96 by kernel_rfl, show reachBytes = 140737488351232 by decide] at h3
  omega
theorem op_both : ∀ n, OpF enc Try.prog W n 38 cI6 okI ∧ OpF enc Try.prog W n 25 cA2 okAr
  | 0 => by
    constructor <;>
    · intro fuel cs x hf h _
      obtain rfl : fuel = 0 := by omega
      simp [DataW.trod] at h
  | n + 1 => by
    obtain ⟨hI, hA⟩ := op_both n
    constructor
    · refine OpF.mono (n := n + 1 + 1) ((op_struct4 (t := 38) (T0 := 32) (T1 := 35) (T2 := 21) (T3 := 36) (s0 := 1) (s1 := 3) (s2 := 1) (s3 := 1) (by kernel_rfl) (by kernel_rfl) (by kernel_rfl) (op_int (by kernel_rfl : Try.prog.underlying 32 = some (.int .u8))) (by kernel_rfl) (op_rat (n + 1)) (by kernel_rfl) (op_int (by kernel_rfl : Try.prog.underlying 21 = some (.int .i32))) (by kernel_rfl) (op_boxes hA)).map fun r hr => ?_) (Nat.le_succ _)
      obtain ⟨k, q, c, b⟩ := r
      obtain ⟨h1, h2, h3, h4⟩ := hr
      refine ⟨.mk k q c b, ?_, rfl⟩
      rw [okI_iff]
      refine ⟨?_, h2, ?_, h4⟩
      · simp [Lit.wf, IntKind.min, IntKind.max, IntKind.signed, IntKind.bits] at h1
        show 0 ≤ k ∧ k < 256
        omega
      · simp [Lit.wf, IntKind.min, IntKind.max, IntKind.signed, IntKind.bits] at h3
        show -2147483648 ≤ c ∧ c < 2147483648
        omega
    · refine OpF.mono (n := n + 1 + 1) ((op_struct2 (t := 25) (T0 := 22) (T1 := 23) (s0 := 1) (s1 := 1) (by kernel_rfl) (by kernel_rfl) (by kernel_rfl) (op_ints (n + 1)) (by kernel_rfl) (op_items' hI)).map fun r hr => ?_) (Nat.le_succ _)
      obtain ⟨s, i⟩ := r
      obtain ⟨⟨h1, h2⟩, h3, h4⟩ := hr
      refine ⟨.mk s i, ?_, rfl⟩
      rw [okAr_iff]
      exact ⟨h1, h2, h3, h4⟩
theorem op_arr (n : Nat) : OpF enc Try.prog W n 25 (fun a : Arr => [.sl (Is a.shape), .sl (Its a.items)]) okAr := (op_both n).2
end
end Go.FL
/-
  GP: glyphref02: sums, products, rounding.
-/
namespace Go.FL
open Go Go.Proofs

def ref02_OfInt (a0 : Int) : Option (RT) := (if a0 < 0 then ((r1Of (IntKind.wrap .u64 (0 - (IntKind.wrap .u64 a0)))).bind fun x1 => (ref2One.bind fun x2 => (some (((decide (a0 < 0)), x1, x2))))) else ((r1Of (IntKind.wrap .u64 a0)).bind fun x3 => (ref2One.bind fun x4 => (some (((decide (a0 < 0)), x3, x4))))))
theorem ref02_OfInt_ok {a0 : Int} {r : RT} (h : ref02_OfInt a0 = some r) :
    Fn Try.prog 79 [.i .i64 a0] (.d (.ag [.b r.1, .sl (L r.2.1), .sl (L r.2.2)])) := by
  unfold ref02_OfInt at h
  refine Fn.ofC (rs := [.cell 2 35]) (nt := 16) Try.func79 rfl rfl rfl (by simp) rfl ?_
  refine .seq ?_
  refine .region ?_
  refine vk (van (zero_of gI_R) gZ_R) ?_
  refine rn ?_
  refine .gh (Gh.keep [0, 2] rfl) ?_
  refine .seq ?_
  refine .region ?_
  refine vk (vmvd) ?_
  refine vk (vcv gk_int gk_uint64) ?_
  refine asd ?_
  refine rn ?_
  refine .gh (Gh.keep [0, 2, 3] rfl) ?_
  refine .seq ?_
  refine .seq ?_
  refine .region ?_
  refine vk (vmvd) ?_
  refine vk (vbi) ?_
  refine rn ?_
  refine .gh (Gh.keep [0, 2, 3, 7] rfl) ?_
  by_cases hc : a0 < 0
  · replace h := ite_t hc h
    refine cnt (decide_eq_true hc) ?_
    refine .region ?_
    refine vk (vmvd) ?_
    refine vk (vng) ?_
    refine asd ?_
    refine rn ?_
    refine .gh (Gh.keep [0, 2, 3] rfl) ?_
    refine .seq ?_
    refine .region ?_
    refine vk (vmvd) ?_
    refine vk (vbi) ?_
    refine vk (vmvd) ?_
    obtain ⟨x1, hx1, h⟩ := bnd h
    refine vk ((vcl0 (r1Of_ok hx1) Try.call115).deep) ?_
    obtain ⟨x2, hx2, h⟩ := bnd h
    refine vk ((vcl0 (ref2One_ok hx2) Try.call83).deep) ?_
    refine vk (vbd gP_R gI_R gZ_R) ?_
    refine stn ?_ gS_R (by decide)
    refine rn ?_
    refine .gh (Gh.keep [2] rfl) ?_
    refine .ret ?_
    cases h
    exact ⟨_, ⟨.inr rfl, gA_R, gS_R, (by decide : (0 : Nat) < 3)⟩, rfl⟩
  replace h := ite_f hc h
  refine cnf (decide_eq_false hc) ?_
  refine .skip ?_
  show AW _ _ _ _ _ _
  refine .seq ?_
  refine .region ?_
  refine vk (vmvd) ?_
  refine vk (vbi) ?_
  refine vk (vmvd) ?_
  obtain ⟨x3, hx3, h⟩ := bnd h
  refine vk ((vcl0 (r1Of_ok hx3) Try.call115).deep) ?_
  obtain ⟨x4, hx4, h⟩ := bnd h
  refine vk ((vcl0 (ref2One_ok hx4) Try.call83).deep) ?_
  refine vk (vbd gP_R gI_R gZ_R) ?_
  refine stn ?_ gS_R (by decide)
  refine rn ?_
  refine .gh (Gh.keep [2] rfl) ?_
  refine .ret ?_
  cases h
  exact ⟨_, ⟨.inr rfl, gA_R, gS_R, (by decide : (0 : Nat) < 3)⟩, rfl⟩

end Go.FL
/-
  GP: glyphref02: comparisons, copies, texts.
-/
namespace Go.FL
open Go Go.Proofs

def ref02_Copy (a0 : RT) : Option (RT) := ((ap? 35184372088832 [] a0.2.1).bind fun x1 => ((ap? 35184372088832 [] a0.2.2).bind fun x2 => (some ((a0.1, x1, x2)))))
theorem ref02_Copy_ok {a0 : RT} {r : RT} (h : ref02_Copy a0 = some r) :
    Fn Try.prog 84 [.ag [.b a0.1, .sl (L a0.2.1), .sl (L a0.2.2)]] (.d (.ag [.b r.1, .sl (L r.2.1), .sl (L r.2.2)])) := by
  unfold ref02_Copy at h
  refine Fn.ofC (rs := [.cell 2 35]) (nt := 20) Try.func84 rfl rfl rfl (by simp) rfl ?_
  refine .seq ?_
  refine .region ?_
  refine vk (vbx) ?_
  refine vk (van (zero_of gI_R) gZ_R) ?_
  refine rn ?_
  refine .gh (Gh.keep [1, 2] rfl) ?_
  refine .seq ?_
  refine .region ?_
  refine vk (vfa gF_R_0) ?_
  refine vk (vldp ga_bool) ?_
  refine vk (vbdA gP_R gI_R (fun w I μ => gZA_R w I μ)) ?_
  refine vk (van (zero_of gI_R) gZ_R) ?_
  refine stnA ?_ gS_R (by decide)
  refine rn ?_
  refine .gh (Gh.keep [1, 2, 3] rfl) ?_
  refine .seq ?_
  refine .region ?_
  refine vk (vfab gF_R_1) ?_
  refine ldb (cs := [.d (.b a0.1), .nl, .nl]) (c := .nl) rfl rfl ?_ ga_L
  refine vk (vfa gF_R_1) ?_
  refine vk (vldp ga_L) ?_
  obtain ⟨x1, hx1, h⟩ := bnd h
  refine apn' hx1 gB_L ?_ L_sz1 L_length ge_L
  refine vk (vfab gF_R_1) ?_
  refine stbo (cs := [.d (.b a0.1), .nl, .nl]) (c := .nl) rfl rfl ?_ gz_L
  refine rn ?_
  refine .gh (Gh.keep [1, 2, 3] rfl) ?_
  refine .seq ?_
  refine .region ?_
  refine vk (vfab gF_R_2) ?_
  refine ldb (cs := [.d (.b a0.1), .own 125 (L x1), .nl]) (c := .nl) rfl rfl ?_ ga_L
  refine vk (vfa gF_R_2) ?_
  refine vk (vldp ga_L) ?_
  obtain ⟨x2, hx2, h⟩ := bnd h
  refine apn' hx2 gB_L ?_ L_sz1 L_length ge_L
  refine vk (vfab gF_R_2) ?_
  refine stbo (cs := [.d (.b a0.1), .own 125 (L x1), .nl]) (c := .nl) rfl rfl ?_ gz_L
  refine rn ?_
  refine .gh (Gh.keep [2, 3] rfl) ?_
  refine .seq ?_
  refine .region ?_
  refine fz (p := .c 0 1) ?_
  refine fz (p := .c 0 2) ?_
  refine vk (vldba (cs := [.d (.b a0.1), .d (.sl (L x1)), .d (.sl (L x2))]) (ds := [.b a0.1, .sl (L x1), .sl (L x2)]) rfl gA_R gS_R) ?_
  refine stn ?_ gS_R (by decide)
  refine rn ?_
  refine .gh (Gh.keep [2] rfl) ?_
  refine .ret ?_
  cases h
  exact ⟨_, ⟨.inr rfl, gA_R, gS_R, (by decide : (0 : Nat) < 3)⟩, rfl⟩

end Go.FL
/-
  GP: glyphref03.
-/
namespace Go.FL
open Go Go.Proofs

def ref03_IsChar (a0 : Int) : Option (Bool) := (some (((decide (0 ≤ a0)) && ((decide (a0 ≤ 1114111)) && ((decide (a0 < 55296)) || (decide (57343 < a0)))))))
theorem ref03_IsChar_ok {a0 : Int} {r : Bool} (h : ref03_IsChar a0 = some r) :
    Fn Try.prog 40 [.i .i32 a0] (.d (.b r)) := by
  unfold ref03_IsChar at h
  refine Fn.of (rs := [.tmp 2]) (nt := 17) Try.func40 rfl rfl rfl (by simp) rfl ?_
  refine .seq ?_
  refine .region ?_
  refine asd ?_
  refine rn ?_
  refine .gh (Gh.keep [0, 2] rfl) ?_
  refine .seq ?_
  refine AW.mr (σ := Unit) (fun _ => True) (fun _ => [(2, .d (.b ((decide (0 ≤ a0)) && ((decide (a0 ≤ 1114111)) && ((decide (a0 < 55296)) || (decide (57343 < a0)))))))]) (fun _ => []) ?_ ?_
  · skip
    refine .region ?_
    refine vk (vmvd) ?_
    refine vk (vbi) ?_
    by_cases hc : 0 ≤ a0
    · have hb0 : (decide (0 ≤ a0)) = true := (decide_eq_true hc)
      refine vk (VOK.lit (vmvd) hb0) ?_
      refine vk (vmvd) ?_
      refine vk (vbi) ?_
      refine vk (vpkd) ?_
      by_cases hc : a0 ≤ 1114111
      · have hb1 : (decide (a0 ≤ 1114111)) = true := (decide_eq_true hc)
        refine vk (VOK.lit (vmvd) hb1) ?_
        refine vk (vmvd) ?_
        refine vk (vbi) ?_
        by_cases hc : a0 < 55296
        · have hb2 : (decide (a0 < 55296)) = true := (decide_eq_true hc)
          refine vk (VOK.lit (vmvd) hb2) ?_
          refine gf ?_
          refine gf ?_
          refine vk (vpkd) ?_
          refine vk (vpkd) ?_
          refine asd ?_
          refine RL.gh (Gh.keep [2] rfl) ?_
          refine .nil ?_
          exact jr () trivial (by simp only [hb0, hb1, hb2]; rfl)
        have hb2 : (decide (a0 < 55296)) = false := (decide_eq_false hc)
        refine vk (VOK.lit (vmvd) hb2) ?_
        refine vk (vmvd) ?_
        refine vk (vbi) ?_
        refine vk (vpkd) ?_
        refine vk (vpkd) ?_
        refine asd ?_
        refine RL.gh (Gh.keep [2] rfl) ?_
        refine .nil ?_
        exact jr () trivial (by simp only [hb0, hb1, hb2]; rfl)
      have hb1 : (decide (a0 ≤ 1114111)) = false := (decide_eq_false hc)
      refine vk (VOK.lit (vmvd) hb1) ?_
      refine gf ?_
      refine gf ?_
      refine gfu ?_
      refine gf ?_
      refine gf ?_
      refine gf ?_
      refine vk (vpkd) ?_
      refine asd ?_
      refine RL.gh (Gh.keep [2] rfl) ?_
      refine .nil ?_
      exact jr () trivial (by simp only [hb0, hb1]; rfl)
    have hb0 : (decide (0 ≤ a0)) = false := (decide_eq_false hc)
    refine vk (VOK.lit (vmvd) hb0) ?_
    refine gf ?_
    refine gf ?_
    refine vk (vpkd) ?_
    refine vk (vmvd) ?_
    refine gf ?_
    refine gf ?_
    refine gfu ?_
    refine gf ?_
    refine gf ?_
    refine gf ?_
    refine vk (vpkd) ?_
    refine asd ?_
    refine RL.gh (Gh.keep [2] rfl) ?_
    refine .nil ?_
    exact jr () trivial (by simp only [hb0]; rfl)
  rintro _ _
  refine .ret ?_
  cases h
  exact ⟨rfl, rfl⟩

def ref3_SameItemB_l1 (rc_ref03_Same : Arr → Arr → Option (Bool)) (a0 : Itm) (a1 : Itm) (K0 : Bool → Option (Bool)) : Nat → Bool → Int → Option (Bool)
  | 0, _, _ => none
  | k + 1, s4, s5 => (if s5 < ((List.length a0.box : Nat) : Int) then ((rd? a0.box s5).bind fun x6 => ((rd? a1.box s5).bind fun x7 => ((rc_ref03_Same x6 x7).bind fun x8 => (if x8 = true then (ref3_SameItemB_l1 rc_ref03_Same a0 a1 K0 k s4 (w64 (s5 + 1))) else (some (false)))))) else (K0 s4))
def ref3_SameItemB (rc_ref03_Same : Arr → Arr → Option (Bool)) (a0 : Itm) (a1 : Itm) : Option (Bool) := (Option.bind ((if a0.kind = a1.kind then (if a0.char = a1.char then ((ref2Same a0.num a1.num).bind fun x2 => (if x2 = true then (some (!(decide (((List.length a0.box : Nat) : Int) = ((List.length a1.box : Nat) : Int))))) else (some true))) else (some true)) else (some true)) : Option (Bool)) fun (z1 : Bool) => (if z1 = true then (some (false)) else (jn (fun (z3 : Bool) => (some (true))) fun K0 => (ref3_SameItemB_l1 rc_ref03_Same a0 a1 K0 FUEL false 0))))
theorem ref3_SameItemB_ok {rc_ref03_Same : Arr → Arr → Option (Bool)} (orc_ref03_Same : ∀ x0 x1 r, rc_ref03_Same x0 x1 = some r → Fn Try.prog 21 [.ag [.sl (Is x0.shape), .sl (Its x0.items)], .ag [.sl (Is x1.shape), .sl (Its x1.items)]] (.d (.b r))) {a0 : Itm} {a1 : Itm} {r : Bool} (h : ref3_SameItemB rc_ref03_Same a0 a1 = some r) :
    Fn Try.prog 69 [.ag [.i .u8 a0.kind, .b a0.num.1, .sl (L a0.num.2.1), .sl (L a0.num.2.2), .i .i32 a0.char, .sl (Ars a0.box)], .ag [.i .u8 a1.kind, .b a1.num.1, .sl (L a1.num.2.1), .sl (L a1.num.2.2), .i .i32 a1.char, .sl (Ars a1.box)]] (.d (.b r)) := by
  unfold ref3_SameItemB at h
  refine Fn.of (rs := [.tmp 4]) (nt := 54) Try.func69 rfl rfl rfl (by simp) rfl ?_
  refine .seq ?_
  refine .region ?_
  refine vk (vbx) ?_
  refine vk (vbx) ?_
  refine asd ?_
  refine rn ?_
  refine .gh (Gh.keep [2, 3, 4] rfl) ?_
  refine .seq ?_
  refine .seq ?_
  obtain ⟨z1, hz, h⟩ := bnd h
  refine AW.mr (σ := Unit) (fun _ => True) (fun _ => [(2, .d (.ptr [.i .u8 a0.kind, .b a0.num.1, .sl (L a0.num.2.1), .sl (L a0.num.2.2), .i .i32 a0.char, .sl (Ars a0.box)])), (3, .d (.ptr [.i .u8 a1.kind, .b a1.num.1, .sl (L a1.num.2.1), .sl (L a1.num.2.2), .i .i32 a1.char, .sl (Ars a1.box)])), (4, .d (.b false)), (34, .d (.b z1))]) (fun _ => []) ?_ ?_
  · skip
    refine .region ?_
    refine vk (vfa gF_Itm_0) ?_
    refine vk (vldp ga_ItemKind) ?_
    refine vk (vfa gF_Itm_0) ?_
    refine vk (vldp ga_ItemKind) ?_
    refine vk (vbi) ?_
    by_cases hc : a0.kind = a1.kind
    · replace hz := ite_t hc hz
      have hb0 : (!(decide (a0.kind = a1.kind))) = false := (ntf (decide_eq_true hc))
      refine vk (VOK.lit (vmvd) hb0) ?_
      refine vk (vfa gF_Itm_2) ?_
      refine vk (vldp ga_int32) ?_
      refine vk (vfa gF_Itm_2) ?_
      refine vk (vldp ga_int32) ?_
      refine vk (vbi) ?_
      refine vk (vpkd) ?_
      by_cases hc : a0.char = a1.char
      · replace hz := ite_t hc hz
        have hb1 : (!(decide (a0.char = a1.char))) = false := (ntf (decide_eq_true hc))
        refine vk (VOK.lit (vmvd) hb1) ?_
        refine vk (vfa gF_Itm_1) ?_
        refine vk (vlda gA_R gS_R) ?_
        refine vk (vfa gF_Itm_1) ?_
        refine vk (vlda gA_R gS_R) ?_
        obtain ⟨x2, hx2, hz⟩ := bnd hz
        refine vk (vcl0 (ref2Same_ok hx2) Try.call103) ?_
        refine vk (vnt) ?_
        refine vk (vpkd) ?_
        by_cases hc : x2 = true
        · replace hz := ite_t hc hz
          have hb2 : (!x2) = false := (ntf hc)
          refine vk (VOK.lit (vmvd) hb2) ?_
          refine vk (vfa gF_Itm_3) ?_
          refine vk (vldp ga_Ars) ?_
          refine vk (vlnE (Ars_length _) (Ars_sz _) gu_Ars) ?_
          refine vk (vfa gF_Itm_3) ?_
          refine vk (vldp ga_Ars) ?_
          refine vk (vlnE (Ars_length _) (Ars_sz _) gu_Ars) ?_
          refine vk (vbi) ?_
          refine vk (vpkd) ?_
          refine RL.gh (Gh.keep [2, 3, 4, 34] rfl) ?_
          refine .nil ?_
          cases hz
          exact jr () trivial
        replace hz := ite_f hc hz
        have hb2 : (!x2) = true := (ntt (bf hc))
        refine vk (VOK.lit (vmvd) hb2) ?_
        refine gf ?_
        refine gf ?_
        refine gf ?_
        refine gf ?_
        refine gf ?_
        refine gf ?_
        refine gf ?_
        refine vk (vpkd) ?_
        refine RL.gh (Gh.keep [2, 3, 4, 34] rfl) ?_
        refine .nil ?_
        cases hz
        exact jr () trivial
      replace hz := ite_f hc hz
      have hb1 : (!(decide (a0.char = a1.char))) = true := (ntt (decide_eq_false hc))
      refine vk (VOK.lit (vmvd) hb1) ?_
      refine gf ?_
      refine gf ?_
      refine gf ?_
      refine gf ?_
      refine gf ?_
      refine gf ?_
      refine vk (vpkd) ?_
      refine vk (vmvd) ?_
      refine gf ?_
      refine gf ?_
      refine gf ?_
      refine gf ?_
      refine gf ?_
      refine gf ?_
      refine gf ?_
      refine vk (vpkd) ?_
      refine RL.gh (Gh.keep [2, 3, 4, 34] rfl) ?_
      refine .nil ?_
      cases hz
      exact jr () trivial
    replace hz := ite_f hc hz
    have hb0 : (!(decide (a0.kind = a1.kind))) = true := (ntt (decide_eq_false hc))
    refine vk (VOK.lit (vmvd) hb0) ?_
    refine gf ?_
    refine gf ?_
    refine gf ?_
    refine gf ?_
    refine gf ?_
    refine vk (vpkd) ?_
    refine vk (vmvd) ?_
    refine gf ?_
    refine gf ?_
    refine gf ?_
    refine gf ?_
    refine gf ?_
    refine gf ?_
    refine vk (vpkd) ?_
    refine vk (vmvd) ?_
    refine gf ?_
    refine gf ?_
    refine gf ?_
    refine gf ?_
    refine gf ?_
    refine gf ?_
    refine gf ?_
    refine vk (vpkd) ?_
    refine RL.gh (Gh.keep [2, 3, 4, 34] rfl) ?_
    refine .nil ?_
    cases hz
    exact jr () trivial
  rintro _ _
  by_cases hc : z1 = true
  · replace h := ite_t hc h
    refine cnt hc ?_
    refine .seq ?_
    refine .region ?_
    refine asd ?_
    refine rn ?_
    refine .gh (Gh.keep [2, 3, 4] rfl) ?_
    refine .ret ?_
    cases h
    exact ⟨rfl, rfl⟩
  replace h := ite_f hc h
  refine cnf (bf hc) ?_
  refine .skip ?_
  show AW _ _ _ _ _ _
  refine .seq ?_
  refine .seq ?_
  refine .region ?_
  refine asd ?_
  refine rn ?_
  refine .gh (Gh.keep [2, 3, 4, 5] rfl) ?_
  obtain ⟨K0, hK0, h⟩ := jn_out h
  refine AW.mr (σ := Bool) (fun p => K0 p = some r) (fun p => [(4, .d (.b p))]) (fun p => []) ?_ ?_
  · skip
    refine .block ?_
    refine .loop (.gh (Gh.keep [2, 3, 4, 5] rfl) ?_)
    refine AL.ind (σ := Nat × Bool × Int) (m := fun p => p.1) (e := fun p => [(2, .d (.ptr [.i .u8 a0.kind, .b a0.num.1, .sl (L a0.num.2.1), .sl (L a0.num.2.2), .i .i32 a0.char, .sl (Ars a0.box)])), (3, .d (.ptr [.i .u8 a1.kind, .b a1.num.1, .sl (L a1.num.2.1), .sl (L a1.num.2.2), .i .i32 a1.char, .sl (Ars a1.box)])), (4, .d (.b p.2.1)), (5, .d (.i .i64 p.2.2))]) (h := fun p => []) (I := fun p => ref3_SameItemB_l1 rc_ref03_Same a0 a1 K0 p.1 p.2.1 p.2.2 = some r) ?_ (FUEL, false, 0) h
    rintro ⟨k, s4, s5⟩ h ih
    dsimp only at h ih ⊢
    rcases k with _ | k
    · rw [ref3_SameItemB_l1] at h; cases h
    rw [ref3_SameItemB_l1] at h
    refine .seq ?_
    refine .seq ?_
    refine .region ?_
    refine vk (vmvd) ?_
    refine vk (vfa gF_Itm_3) ?_
    refine vk (vldp ga_Ars) ?_
    refine vk (vlnE (Ars_length _) (Ars_sz _) gu_Ars) ?_
    refine vk (vbi) ?_
    refine rn ?_
    refine .gh (Gh.keep [2, 3, 4, 5, 39] rfl) ?_
    by_cases hc : s5 < ((List.length a0.box : Nat) : Int)
    · replace h := ite_t hc h
      refine cnt (decide_eq_true hc) ?_
      refine .skip ?_
      show AW _ _ _ _ _ _
      refine .seq ?_
      refine .block ?_
      refine .seq ?_
      refine .drawn 12 mixed (by kernel_rfl) ?_
      refine dv (vfa gF_Itm_3) ?_
      refine dv (vldp ga_Ars) ?_
      refine dv (vmvd) ?_
      obtain ⟨x6, hx6, h⟩ := bnd h
      obtain ⟨nx6, hnx6, hxx6⟩ := rd_some hx6
      refine dv (vix nx6 hnx6 (Ars_at hxx6) rfl gs_Ars) ?_
      refine dv (vlda gA_Arr gS_Arr) ?_
      refine dv (vfa gF_Itm_3) ?_
      refine dv (vldp ga_Ars) ?_
      refine dv (vmvd) ?_
      obtain ⟨x7, hx7, h⟩ := bnd h
      obtain ⟨nx7, hnx7, hxx7⟩ := rd_some hx7
      refine dv (vix nx7 hnx7 (Ars_at hxx7) rfl gs_Ars) ?_
      refine dv (vlda gA_Arr gS_Arr) ?_
      obtain ⟨x8, hx8, h⟩ := bnd h
      refine dv (vcl0 (orc_ref03_Same _ _ _ hx8) Try.call21) ?_
      refine dv (vnt) ?_
      refine dz ?_
      refine rn ?_
      refine .gh (Gh.keep [2, 3, 4, 5, 53] rfl) ?_
      by_cases hc : x8 = true
      · replace h := ite_t hc h
        refine cnf (ntf hc) ?_
        refine .skip ?_
        show AW _ _ _ _ _ _
        refine .region ?_
        refine vk (vmvd) ?_
        refine vk (vbi) ?_
        refine asd ?_
        refine .nil ?_
        refine AL.gh (Gh.keep [2, 3, 4, 5] rfl) ?_
        exact ih (k, s4, (w64 (s5 + 1))) h (Nat.lt_succ_self _)
      replace h := ite_f hc h
      refine cnt (ntt (bf hc)) ?_
      refine .seq ?_
      refine .region ?_
      refine asd ?_
      refine rn ?_
      refine .gh (Gh.keep [2, 3, 4, 5] rfl) ?_
      refine .ret ?_
      cases h
      exact ⟨rfl, rfl⟩
    replace h := ite_f hc h
    refine cnf (decide_eq_false hc) ?_
    refine .gh (Gh.keep [4] rfl) ?_
    refine .exit ?_
    exact jr (s4) h
  rintro z3 h
  try dsimp only at h ⊢
  subst hK0
  show AW _ _ _ _ _ _
  refine .seq ?_
  refine .region ?_
  refine asd ?_
  refine rn ?_
  refine .gh (Gh.keep [4] rfl) ?_
  refine .ret ?_
  cases h
  exact ⟨rfl, rfl⟩

def ref3_SameB_l1 (a0 : Arr) (a1 : Arr) (K0 : Bool → Option (Bool)) : Nat → Bool → Int → Option (Bool)
  | 0, _, _ => none
  | k + 1, s2, s3 => (if s3 < ((List.length a0.shape : Nat) : Int) then ((rd? a0.shape s3).bind fun x4 => ((rd? a1.shape s3).bind fun x5 => (if x4 = x5 then (ref3_SameB_l1 a0 a1 K0 k s2 (w64 (s3 + 1))) else (some (false))))) else (K0 s2))
def ref3_SameB_l3 (rc_ref03_Same : Arr → Arr → Option (Bool)) (a0 : Arr) (a1 : Arr) (K2 : Bool → Option (Bool)) : Nat → Bool → Int → Option (Bool)
  | 0, _, _ => none
  | k + 1, s7, s8 => (if s8 < ((List.length a0.items : Nat) : Int) then ((rd? a0.items s8).bind fun x9 => ((rd? a1.items s8).bind fun x10 => ((ref3_SameItemB rc_ref03_Same x9 x10).bind fun x11 => (if x11 = true then (ref3_SameB_l3 rc_ref03_Same a0 a1 K2 k s7 (w64 (s8 + 1))) else (some (false)))))) else (K2 s7))
def ref3_SameB (rc_ref03_Same : Arr → Arr → Option (Bool)) (a0 : Arr) (a1 : Arr) : Option (Bool) := (if ((!(decide (((List.length a0.shape : Nat) : Int) = ((List.length a1.shape : Nat) : Int)))) || (!(decide (((List.length a0.items : Nat) : Int) = ((List.length a1.items : Nat) : Int))))) = true then (some (false)) else (jn (fun (z1 : Bool) => (jn (fun (z6 : Bool) => (some (true))) fun K2 => (ref3_SameB_l3 rc_ref03_Same a0 a1 K2 FUEL z1 0))) fun K0 => (ref3_SameB_l1 a0 a1 K0 FUEL false 0)))
theorem ref3_SameB_ok {rc_ref03_Same : Arr → Arr → Option (Bool)} (orc_ref03_Same : ∀ x0 x1 r, rc_ref03_Same x0 x1 = some r → Fn Try.prog 21 [.ag [.sl (Is x0.shape), .sl (Its x0.items)], .ag [.sl (Is x1.shape), .sl (Its x1.items)]] (.d (.b r))) {a0 : Arr} {a1 : Arr} {r : Bool} (h : ref3_SameB rc_ref03_Same a0 a1 = some r) :
    Fn Try.prog 21 [.ag [.sl (Is a0.shape), .sl (Its a0.items)], .ag [.sl (Is a1.shape), .sl (Its a1.items)]] (.d (.b r)) := by
  unfold ref3_SameB at h
  refine Fn.of (rs := [.tmp 4]) (nt := 60) Try.func21 rfl rfl rfl (by simp) rfl ?_
  refine .seq ?_
  refine .region ?_
  refine vk (vbx) ?_
  refine vk (vbx) ?_
  refine asd ?_
  refine rn ?_
  refine .gh (Gh.keep [2, 3, 4] rfl) ?_
  refine .seq ?_
  refine .seq ?_
  refine AW.mr (σ := Unit) (fun _ => True) (fun _ => [(2, .d (.ptr [.sl (Is a0.shape), .sl (Its a0.items)])), (3, .d (.ptr [.sl (Is a1.shape), .sl (Its a1.items)])), (4, .d (.b false)), (22, .d (.b ((!(decide (((List.length a0.shape : Nat) : Int) = ((List.length a1.shape : Nat) : Int)))) || (!(decide (((List.length a0.items : Nat) : Int) = ((List.length a1.items : Nat) : Int)))))))]) (fun _ => []) ?_ ?_
  · skip
    refine .region ?_
    refine vk (vfa gF_Arr_0) ?_
    refine vk (vldp ga_Is) ?_
    refine vk (vlnE (Is_length _) (Is_sz _) gu_Is) ?_
    refine vk (vfa gF_Arr_0) ?_
    refine vk (vldp ga_Is) ?_
    refine vk (vlnE (Is_length _) (Is_sz _) gu_Is) ?_
    refine vk (vbi) ?_
    by_cases hc : ((List.length a0.shape : Nat) : Int) = ((List.length a1.shape : Nat) : Int)
    · have hb0 : (!(decide (((List.length a0.shape : Nat) : Int) = ((List.length a1.shape : Nat) : Int)))) = false := (ntf (decide_eq_true hc))
      refine vk (VOK.lit (vmvd) hb0) ?_
      refine vk (vfa gF_Arr_1) ?_
      refine vk (vldp ga_Its) ?_
      refine vk (vlnE (Its_length _) (Its_sz _) gu_Its) ?_
      refine vk (vfa gF_Arr_1) ?_
      refine vk (vldp ga_Its) ?_
      refine vk (vlnE (Its_length _) (Its_sz _) gu_Its) ?_
      refine vk (vbi) ?_
      refine vk (vpkd) ?_
      refine RL.gh (Gh.keep [2, 3, 4, 22] rfl) ?_
      refine .nil ?_
      exact jr () trivial (by simp only [hb0]; rfl)
    have hb0 : (!(decide (((List.length a0.shape : Nat) : Int) = ((List.length a1.shape : Nat) : Int)))) = true := (ntt (decide_eq_false hc))
    refine vk (VOK.lit (vmvd) hb0) ?_
    refine gf ?_
    refine gf ?_
    refine gf ?_
    refine gf ?_
    refine gf ?_
    refine gf ?_
    refine gf ?_
    refine vk (vpkd) ?_
    refine RL.gh (Gh.keep [2, 3, 4, 22] rfl) ?_
    refine .nil ?_
    exact jr () trivial (by simp only [hb0]; rfl)
  rintro _ _
  by_cases hc : ((!(decide (((List.length a0.shape : Nat) : Int) = ((List.length a1.shape : Nat) : Int)))) || (!(decide (((List.length a0.items : Nat) : Int) = ((List.length a1.items : Nat) : Int))))) = true
  · replace h := ite_t hc h
    refine cnt hc ?_
    refine .seq ?_
    refine .region ?_
    refine asd ?_
    refine rn ?_
    refine .gh (Gh.keep [2, 3, 4] rfl) ?_
    refine .ret ?_
    cases h
    exact ⟨rfl, rfl⟩
  replace h := ite_f hc h
  refine cnf (bf hc) ?_
  refine .skip ?_
  show AW _ _ _ _ _ _
  refine .seq ?_
  refine .seq ?_
  refine .region ?_
  refine asd ?_
  refine rn ?_
  refine .gh (Gh.keep [2, 3, 4, 5] rfl) ?_
  obtain ⟨K0, hK0, h⟩ := jn_out h
  refine AW.mr (σ := Bool) (fun p => K0 p = some r) (fun p => [(2, .d (.ptr [.sl (Is a0.shape), .sl (Its a0.items)])), (3, .d (.ptr [.sl (Is a1.shape), .sl (Its a1.items)])), (4, .d (.b p))]) (fun p => []) ?_ ?_
  · skip
    refine .block ?_
    refine .loop (.gh (Gh.keep [2, 3, 4, 5] rfl) ?_)
    refine AL.ind (σ := Nat × Bool × Int) (m := fun p => p.1) (e := fun p => [(2, .d (.ptr [.sl (Is a0.shape), .sl (Its a0.items)])), (3, .d (.ptr [.sl (Is a1.shape), .sl (Its a1.items)])), (4, .d (.b p.2.1)), (5, .d (.i .i64 p.2.2))]) (h := fun p => []) (I := fun p => ref3_SameB_l1 a0 a1 K0 p.1 p.2.1 p.2.2 = some r) ?_ (FUEL, false, 0) h
    rintro ⟨k, s2, s3⟩ h ih
    dsimp only at h ih ⊢
    rcases k with _ | k
    · rw [ref3_SameB_l1] at h; cases h
    rw [ref3_SameB_l1] at h
    refine .seq ?_
    refine .seq ?_
    refine .region ?_
    refine vk (vmvd) ?_
    refine vk (vfa gF_Arr_0) ?_
    refine vk (vldp ga_Is) ?_
    refine vk (vlnE (Is_length _) (Is_sz _) gu_Is) ?_
    refine vk (vbi) ?_
    refine rn ?_
    refine .gh (Gh.keep [2, 3, 4, 5, 27] rfl) ?_
    by_cases hc : s3 < ((List.length a0.shape : Nat) : Int)
    · replace h := ite_t hc h
      refine cnt (decide_eq_true hc) ?_
      refine .skip ?_
      show AW _ _ _ _ _ _
      refine .seq ?_
      refine .block ?_
      refine .seq ?_
      refine .drawn 11 mixed (by kernel_rfl) ?_
      refine dv (vfa gF_Arr_0) ?_
      refine dv (vldp ga_Is) ?_
      refine dv (vmvd) ?_
      obtain ⟨x4, hx4, h⟩ := bnd h
      obtain ⟨nx4, hnx4, hxx4⟩ := rd_some hx4
      refine dv (vix nx4 hnx4 (Is_at hxx4) rfl gs_Is) ?_
      refine dv (vldp ga_int) ?_
      refine dv (vfa gF_Arr_0) ?_
      refine dv (vldp ga_Is) ?_
      refine dv (vmvd) ?_
      obtain ⟨x5, hx5, h⟩ := bnd h
      obtain ⟨nx5, hnx5, hxx5⟩ := rd_some hx5
      refine dv (vix nx5 hnx5 (Is_at hxx5) rfl gs_Is) ?_
      refine dv (vldp ga_int) ?_
      refine dv (vbi) ?_
      refine dz ?_
      refine rn ?_
      refine .gh (Gh.keep [2, 3, 4, 5, 40] rfl) ?_
      by_cases hc : x4 = x5
      · replace h := ite_t hc h
        refine cnf (ntf (decide_eq_true hc)) ?_
        refine .skip ?_
        show AW _ _ _ _ _ _
        refine .region ?_
        refine vk (vmvd) ?_
        refine vk (vbi) ?_
        refine asd ?_
        refine .nil ?_
        refine AL.gh (Gh.keep [2, 3, 4, 5] rfl) ?_
        exact ih (k, s2, (w64 (s3 + 1))) h (Nat.lt_succ_self _)
      replace h := ite_f hc h
      refine cnt (ntt (decide_eq_false hc)) ?_
      refine .seq ?_
      refine .region ?_
      refine asd ?_
      refine rn ?_
      refine .gh (Gh.keep [2, 3, 4, 5] rfl) ?_
      refine .ret ?_
      cases h
      exact ⟨rfl, rfl⟩
    replace h := ite_f hc h
    refine cnf (decide_eq_false hc) ?_
    refine .gh (Gh.keep [2, 3, 4] rfl) ?_
    refine .exit ?_
    exact jr (s2) h
  rintro z1 h
  try dsimp only at h ⊢
  subst hK0
  show AW _ _ _ _ _ _
  refine .seq ?_
  refine .seq ?_
  refine .region ?_
  refine asd ?_
  refine rn ?_
  refine .gh (Gh.keep [2, 3, 4, 6] rfl) ?_
  obtain ⟨K2, hK2, h⟩ := jn_out h
  refine AW.mr (σ := Bool) (fun p => K2 p = some r) (fun p => [(4, .d (.b p))]) (fun p => []) ?_ ?_
  · skip
    refine .block ?_
    refine .loop (.gh (Gh.keep [2, 3, 4, 6] rfl) ?_)
    refine AL.ind (σ := Nat × Bool × Int) (m := fun p => p.1) (e := fun p => [(2, .d (.ptr [.sl (Is a0.shape), .sl (Its a0.items)])), (3, .d (.ptr [.sl (Is a1.shape), .sl (Its a1.items)])), (4, .d (.b p.2.1)), (6, .d (.i .i64 p.2.2))]) (h := fun p => []) (I := fun p => ref3_SameB_l3 rc_ref03_Same a0 a1 K2 p.1 p.2.1 p.2.2 = some r) ?_ (FUEL, z1, 0) h
    rintro ⟨k, s7, s8⟩ h ih
    dsimp only at h ih ⊢
    rcases k with _ | k
    · rw [ref3_SameB_l3] at h; cases h
    rw [ref3_SameB_l3] at h
    refine .seq ?_
    refine .seq ?_
    refine .region ?_
    refine vk (vmvd) ?_
    refine vk (vfa gF_Arr_1) ?_
    refine vk (vldp ga_Its) ?_
    refine vk (vlnE (Its_length _) (Its_sz _) gu_Its) ?_
    refine vk (vbi) ?_
    refine rn ?_
    refine .gh (Gh.keep [2, 3, 4, 6, 45] rfl) ?_
    by_cases hc : s8 < ((List.length a0.items : Nat) : Int)
    · replace h := ite_t hc h
      refine cnt (decide_eq_true hc) ?_
      refine .skip ?_
      show AW _ _ _ _ _ _
      refine .seq ?_
      refine .block ?_
      refine .seq ?_
      refine .drawn 12 mixed (by kernel_rfl) ?_
      refine dv (vfa gF_Arr_1) ?_
      refine dv (vldp ga_Its) ?_
      refine dv (vmvd) ?_
      obtain ⟨x9, hx9, h⟩ := bnd h
      obtain ⟨nx9, hnx9, hxx9⟩ := rd_some hx9
      refine dv (vix nx9 hnx9 (Its_at hxx9) rfl gs_Its) ?_
      refine dv (vlda gA_Itm gS_Itm) ?_
      refine dv (vfa gF_Arr_1) ?_
      refine dv (vldp ga_Its) ?_
      refine dv (vmvd) ?_
      obtain ⟨x10, hx10, h⟩ := bnd h
      obtain ⟨nx10, hnx10, hxx10⟩ := rd_some hx10
      refine dv (vix nx10 hnx10 (Its_at hxx10) rfl gs_Its) ?_
      refine dv (vlda gA_Itm gS_Itm) ?_
      obtain ⟨x11, hx11, h⟩ := bnd h
      refine dv (vcl0 (ref3_SameItemB_ok orc_ref03_Same hx11) Try.call69) ?_
      refine dv (vnt) ?_
      refine dz ?_
      refine rn ?_
      refine .gh (Gh.keep [2, 3, 4, 6, 59] rfl) ?_
      by_cases hc : x11 = true
      · replace h := ite_t hc h
        refine cnf (ntf hc) ?_
        refine .skip ?_
        show AW _ _ _ _ _ _
        refine .region ?_
        refine vk (vmvd) ?_
        refine vk (vbi) ?_
        refine asd ?_
        refine .nil ?_
        refine AL.gh (Gh.keep [2, 3, 4, 6] rfl) ?_
        exact ih (k, s7, (w64 (s8 + 1))) h (Nat.lt_succ_self _)
      replace h := ite_f hc h
      refine cnt (ntt (bf hc)) ?_
      refine .seq ?_
      refine .region ?_
      refine asd ?_
      refine rn ?_
      refine .gh (Gh.keep [2, 3, 4, 6] rfl) ?_
      refine .ret ?_
      cases h
      exact ⟨rfl, rfl⟩
    replace h := ite_f hc h
    refine cnf (decide_eq_false hc) ?_
    refine .gh (Gh.keep [4] rfl) ?_
    refine .exit ?_
    exact jr (s7) h
  rintro z6 h
  try dsimp only at h ⊢
  subst hK2
  show AW _ _ _ _ _ _
  refine .seq ?_
  refine .region ?_
  refine asd ?_
  refine rn ?_
  refine .gh (Gh.keep [4] rfl) ?_
  refine .ret ?_
  cases h
  exact ⟨rfl, rfl⟩

def ref3_Same_r : Nat → Arr → Arr → Option (Bool)
  | 0, _, _ => none
  | k + 1, a0, a1 => ref3_SameB (ref3_Same_r k) a0 a1
theorem ref3_Same_r_ok : ∀ (k : Nat) (a0 : Arr) (a1 : Arr) (r : Bool), ref3_Same_r k a0 a1 = some r → Fn Try.prog 21 [.ag [.sl (Is a0.shape), .sl (Its a0.items)], .ag [.sl (Is a1.shape), .sl (Its a1.items)]] (.d (.b r))
  | 0, _, _, _, h => by cases h
  | k + 1, a0, a1, _, h => ref3_SameB_ok (ref3_Same_r_ok k) (show ref3_SameB (ref3_Same_r k) a0 a1 = some _ from h)
def ref3_Same (a0 : Arr) (a1 : Arr) : Option (Bool) := ref3_Same_r (a0.size + 1) a0 a1
theorem ref3_Same_ok {a0 : Arr} {a1 : Arr} {r : Bool} (h : ref3_Same a0 a1 = some r) : Fn Try.prog 21 [.ag [.sl (Is a0.shape), .sl (Its a0.items)], .ag [.sl (Is a1.shape), .sl (Its a1.items)]] (.d (.b r)) := ref3_Same_r_ok _ a0 a1 r h

def ref03_Num (a0 : RT) : Option (Arr) := ((ref02_Copy a0).bind fun x1 => (some ((Arr.mk [] [(Itm.mk 1 x1 0 [])]))))
theorem ref03_Num_ok {a0 : RT} {r : Arr} (h : ref03_Num a0 = some r) :
    Fn Try.prog 39 [.ag [.b a0.1, .sl (L a0.2.1), .sl (L a0.2.2)]] (.d (.ag [.sl (Is r.shape), .sl (Its r.items)])) := by
  unfold ref03_Num at h
  refine Fn.ofC (rs := [.cell 2 25]) (nt := 8) Try.func39 rfl rfl rfl (by simp) rfl ?_
  refine .seq ?_
  refine .region ?_
  refine vk (vbx) ?_
  refine vk (van (zero_of gI_Arr) gZ_Arr) ?_
  refine rn ?_
  refine .gh (Gh.keep [1, 2] rfl) ?_
  refine .seq ?_
  refine .region ?_
  refine vk (vlda gA_R gS_R) ?_
  obtain ⟨x1, hx1, h⟩ := bnd h
  refine vk (vcl0 (ref02_Copy_ok hx1) Try.call84) ?_
  refine vk (vbd gP_Itm gI_Itm gZ_Itm) ?_
  refine vk ((vbslE (Its_bs1 (Itm.mk 1 x1 0 [])) (Its_flat [(Itm.mk 1 x1 0 [])]) ge_Its).deep) ?_
  refine vk (vbd gP_Arr gI_Arr gZ_Arr) ?_
  refine stn ?_ gS_Arr (by decide)
  refine rn ?_
  refine .gh (Gh.keep [2] rfl) ?_
  refine .ret ?_
  cases h
  exact ⟨_, ⟨.inr rfl, gA_Arr, gS_Arr, (by decide : (0 : Nat) < 2)⟩, rfl⟩

def ref03_Int (a0 : Int) : Option (Arr) := ((ref02_OfInt a0).bind fun x1 => ((ref03_Num x1).bind fun x2 => (some (x2))))
theorem ref03_Int_ok {a0 : Int} {r : Arr} (h : ref03_Int a0 = some r) :
    Fn Try.prog 37 [.i .i64 a0] (.d (.ag [.sl (Is r.shape), .sl (Its r.items)])) := by
  unfold ref03_Int at h
  refine Fn.ofC (rs := [.cell 2 25]) (nt := 6) Try.func37 rfl rfl rfl (by simp) rfl ?_
  refine .seq ?_
  refine .region ?_
  refine vk (van (zero_of gI_Arr) gZ_Arr) ?_
  refine rn ?_
  refine .gh (Gh.keep [0, 2] rfl) ?_
  refine .seq ?_
  refine .region ?_
  refine vk (vmvd) ?_
  obtain ⟨x1, hx1, h⟩ := bnd h
  refine vk (vcl0 (ref02_OfInt_ok hx1) Try.call79) ?_
  obtain ⟨x2, hx2, h⟩ := bnd h
  refine vk (vcl0 (ref03_Num_ok hx2) Try.call39) ?_
  refine stn ?_ gS_Arr (by decide)
  refine rn ?_
  refine .gh (Gh.keep [2] rfl) ?_
  refine .ret ?_
  cases h
  exact ⟨_, ⟨.inr rfl, gA_Arr, gS_Arr, (by decide : (0 : Nat) < 2)⟩, rfl⟩

def ref03_Char (a0 : Int) : Option (Arr) := (some ((Arr.mk [] [(Itm.mk 2 (false, [], []) a0 [])])))
theorem ref03_Char_ok {a0 : Int} {r : Arr} (h : ref03_Char a0 = some r) :
    Fn Try.prog 41 [.i .i32 a0] (.d (.ag [.sl (Is r.shape), .sl (Its r.items)])) := by
  unfold ref03_Char at h
  refine Fn.ofC (rs := [.cell 2 25]) (nt := 7) Try.func41 rfl rfl rfl (by simp) rfl ?_
  refine .seq ?_
  refine .region ?_
  refine vk (van (zero_of gI_Arr) gZ_Arr) ?_
  refine rn ?_
  refine .gh (Gh.keep [0, 2] rfl) ?_
  refine .seq ?_
  refine .region ?_
  refine vk (vmvd) ?_
  refine vk (vbd gP_Itm gI_Itm gZ_Itm) ?_
  refine vk ((vbslE (Its_bs1 (Itm.mk 2 (false, [], []) a0 [])) (Its_flat [(Itm.mk 2 (false, [], []) a0 [])]) ge_Its).deep) ?_
  refine vk (vbd gP_Arr gI_Arr gZ_Arr) ?_
  refine stn ?_ gS_Arr (by decide)
  refine rn ?_
  refine .gh (Gh.keep [2] rfl) ?_
  refine .ret ?_
  cases h
  exact ⟨_, ⟨.inr rfl, gA_Arr, gS_Arr, (by decide : (0 : Nat) < 2)⟩, rfl⟩

def ref03_Ints_l1 (a0 : (List Int)) (K0 : (List Itm) → Option (Arr)) : Nat → (List Itm) → Int → Option (Arr)
  | 0, _, _ => none
  | k + 1, s2, s3 => (if ((decide (s3 < ((List.length a0 : Nat) : Int))) && (decide (s3 < 4096))) = true then ((rd? a0 s3).bind fun x4 => ((ref03_Int x4).bind fun x5 => ((rd? x5.items 0).bind fun x6 => ((ap? 1466015503701 s2 [x6]).bind fun x7 => (ref03_Ints_l1 a0 K0 k x7 (w64 (s3 + 1))))))) else (K0 s2))
def ref03_Ints (a0 : (List Int)) : Option (Arr) := (jn (fun (z1 : (List Itm)) => (jn (fun (z8 : (List Itm)) => (some ((Arr.mk [((List.length z1 : Nat) : Int)] z8)))) fun K2 => (if ((List.length z1 : Nat) : Int) = 0 then ((ref03_Int 0).bind fun x9 => (K2 x9.items)) else (K2 z1)))) fun K0 => (ref03_Ints_l1 a0 K0 FUEL [] 0))
theorem ref03_Ints_ok {a0 : (List Int)} {r : Arr} (h : ref03_Ints a0 = some r) :
    Fn Try.prog 22 [.sl (Is a0)] (.d (.ag [.sl (Is r.shape), .sl (Its r.items)])) := by
  unfold ref03_Ints at h
  refine Fn.ofC (rs := [.cell 2 25]) (nt := 37) Try.func22 rfl rfl rfl (by simp) rfl ?_
  refine .seq ?_
  refine .region ?_
  refine vk (van (zero_of gI_Arr) gZ_Arr) ?_
  refine rn ?_
  refine .gh (Gh.keep [0, 2] rfl) ?_
  refine .seq ?_
  refine .region ?_
  refine asn ?_
  refine rn ?_
  refine .gh (Gh.keep [0, 2, 3] rfl) ?_
  refine .seq ?_
  refine .seq ?_
  refine .region ?_
  refine asd ?_
  refine rn ?_
  refine .gh (Gh.keep [0, 2, 3, 4] rfl) ?_
  obtain ⟨K0, hK0, h⟩ := jn_out h
  refine AW.mr (σ := (List Itm)) (fun p => K0 p = some r) (fun p => [(2, .nb [.sl (Is []), .sl (Its [])]), (3, .own 38 (Its p))]) (fun p => []) ?_ ?_
  · skip
    refine .block ?_
    refine .gh (Gh.nlOwn (t := 3) 38 (by rw [gz_Itm]; decide) rfl) ?_
    refine .loop (.gh (Gh.keep [0, 2, 3, 4] rfl) ?_)
    refine AL.ind (σ := Nat × (List Itm) × Int) (m := fun p => p.1) (e := fun p => [(0, .d (.sl (Is a0))), (2, .nb [.sl (Is []), .sl (Its [])]), (3, .own 38 (Its p.2.1)), (4, .d (.i .i64 p.2.2))]) (h := fun p => []) (I := fun p => ref03_Ints_l1 a0 K0 p.1 p.2.1 p.2.2 = some r) ?_ (FUEL, [], 0) h
    rintro ⟨k, s2, s3⟩ h ih
    dsimp only at h ih ⊢
    rcases k with _ | k
    · rw [ref03_Ints_l1] at h; cases h
    rw [ref03_Ints_l1] at h
    refine .seq ?_
    refine .seq ?_
    refine AW.mr (σ := Unit) (fun _ => True) (fun _ => [(0, .d (.sl (Is a0))), (2, .nb [.sl (Is []), .sl (Its [])]), (3, .own 38 (Its s2)), (4, .d (.i .i64 s3)), (13, .d (.b ((decide (s3 < ((List.length a0 : Nat) : Int))) && (decide (s3 < 4096)))))]) (fun _ => []) ?_ ?_
    · skip
      refine .region ?_
      refine vk (vmvd) ?_
      refine vk (vmvd) ?_
      refine vk (vlnE (Is_length _) (Is_sz _) gu_Is) ?_
      refine vk (vbi) ?_
      by_cases hc : s3 < ((List.length a0 : Nat) : Int)
      · have hb0 : (decide (s3 < ((List.length a0 : Nat) : Int))) = true := (decide_eq_true hc)
        refine vk (VOK.lit (vmvd) hb0) ?_
        refine vk (vmvd) ?_
        refine vk (vbi) ?_
        refine vk (vpkd) ?_
        refine RL.gh (Gh.keep [0, 2, 3, 4, 13] rfl) ?_
        refine .nil ?_
        exact jr () trivial (by simp only [hb0]; rfl)
      have hb0 : (decide (s3 < ((List.length a0 : Nat) : Int))) = false := (decide_eq_false hc)
      refine vk (VOK.lit (vmvd) hb0) ?_
      refine gf ?_
      refine gf ?_
      refine vk (vpkd) ?_
      refine RL.gh (Gh.keep [0, 2, 3, 4, 13] rfl) ?_
      refine .nil ?_
      exact jr () trivial (by simp only [hb0]; rfl)
    rintro _ _
    by_cases hc : ((decide (s3 < ((List.length a0 : Nat) : Int))) && (decide (s3 < 4096))) = true
    · replace h := ite_t hc h
      refine cnt hc ?_
      refine .skip ?_
      show AW _ _ _ _ _ _
      refine .seq ?_
      refine .block ?_
      refine .region ?_
      refine mvo ?_
      refine vk (vmvd) ?_
      refine vk (vmvd) ?_
      obtain ⟨x4, hx4, h⟩ := bnd h
      obtain ⟨nx4, hnx4, hxx4⟩ := rd_some hx4
      refine vk (vix nx4 hnx4 (Is_at hxx4) rfl gs_Is) ?_
      refine vk (vldp ga_int) ?_
      obtain ⟨x5, hx5, h⟩ := bnd h
      refine vk (vcl0 (ref03_Int_ok hx5) Try.call37) ?_
      refine vk (vfdl gF_Arr_1 gG_Arr_1) ?_
      obtain ⟨x6, hx6, h⟩ := bnd h
      obtain ⟨nx6, hnx6, hxx6⟩ := rd_some hx6
      refine vk (vix nx6 hnx6 (Its_at hxx6) rfl gs_Its) ?_
      refine vk (vlda gA_Itm gS_Itm) ?_
      refine vk ((vbslE (Its_bs1 x6) (Its_flat [x6]) ge_Its).deep) ?_
      obtain ⟨x7, hx7, h⟩ := bnd h
      refine apr' Its_app hx7 gB_Its ?_ Its_sz1 Its_length ge_Its
      refine aso ?_
      refine .nil ?_
      show AW _ _ _ _ _ _
      refine .gh (Gh.keep [0, 2, 3, 4] rfl) ?_
      refine .region ?_
      refine vk (vmvd) ?_
      refine vk (vbi) ?_
      refine asd ?_
      refine .nil ?_
      refine AL.gh (Gh.keep [0, 2, 3, 4] rfl) ?_
      exact ih (k, x7, (w64 (s3 + 1))) h (Nat.lt_succ_self _)
    replace h := ite_f hc h
    refine cnf (bf hc) ?_
    refine .gh (Gh.keep [2, 3] rfl) ?_
    refine .exit ?_
    exact jr (s2) h
  rintro z1 h
  try dsimp only at h ⊢
  subst hK0
  show AW _ _ _ _ _ _
  refine .seq ?_
  refine .region ?_
  refine mvo ?_
  refine vk (vlnrE (Its_length _) gu_Its) ?_
  refine asd ?_
  refine rn ?_
  refine .gh (Gh.keep [2, 3, 5] rfl) ?_
  refine .seq ?_
  refine .seq ?_
  refine .region ?_
  refine vk (vmvd) ?_
  refine vk (vbi) ?_
  refine rn ?_
  refine .gh (Gh.keep [2, 3, 5, 30] rfl) ?_
  obtain ⟨K2, hK2, h⟩ := jn_out h
  refine AW.mr (σ := (List Itm)) (fun p => K2 p = some r) (fun p => [(2, .nb [.sl (Is []), .sl (Its [])]), (3, .d (.sl (Its p))), (5, .d (.i .i64 ((List.length z1 : Nat) : Int)))]) (fun p => []) ?_ ?_
  · skip
    by_cases hc : ((List.length z1 : Nat) : Int) = 0
    · replace h := ite_t hc h
      refine cnt (decide_eq_true hc) ?_
      refine .region ?_
      obtain ⟨x9, hx9, h⟩ := bnd h
      refine vk (vcl0 (ref03_Int_ok hx9) Try.call37) ?_
      refine vk (vfdl gF_Arr_1 gG_Arr_1) ?_
      refine RL.gh (Gh.keep [2, 5, 30, 31, 32] rfl) ?_
      refine asd ?_
      refine RL.gh (Gh.keep [2, 3, 5] rfl) ?_
      refine .nil ?_
      exact jr (x9.items) h
    replace h := ite_f hc h
    refine cnf (decide_eq_false hc) ?_
    refine .gh (Gh.frz (p := .t 3) rfl (fun _ _ h => by cases h)) ?_
    refine .gh (Gh.keep [2, 3, 5] rfl) ?_
    refine .skip ?_
    exact jr (z1) h
  rintro z8 h
  try dsimp only at h ⊢
  subst hK2
  show AW _ _ _ _ _ _
  refine .seq ?_
  refine .region ?_
  refine vk (vmvd) ?_
  refine vk ((vbsl (Is_flat [((List.length z1 : Nat) : Int)]) ge_Is).deep) ?_
  refine vk (vmvd) ?_
  refine vk (vbd gP_Arr gI_Arr gZ_Arr) ?_
  refine stn ?_ gS_Arr (by decide)
  refine rn ?_
  refine .gh (Gh.keep [2] rfl) ?_
  refine .ret ?_
  cases h
  exact ⟨_, ⟨.inr rfl, gA_Arr, gS_Arr, (by decide : (0 : Nat) < 2)⟩, rfl⟩

def ref03_Text_l1 (a0 : ByteArray) (K0 : (List Itm) → Option (Arr)) : Nat → (List Itm) → Nat → Option (Arr)
  | 0, _, _ => none
  | k + 1, s2, s3 => (if s3 < ByteArray.size a0 then (if ((List.length s2 : Nat) : Int) < 4096 then ((ap? 1466015503701 s2 [(Itm.mk 2 (false, [], []) (rune a0 s3) [])]).bind fun x4 => (ref03_Text_l1 a0 K0 k x4 (rnext a0 s3))) else (ref03_Text_l1 a0 K0 k s2 (rnext a0 s3))) else (K0 s2))
def ref03_Text (a0 : ByteArray) : Option (Arr) := (jn (fun (z1 : (List Itm)) => (jn (fun (z5 : (List Itm)) => (some ((Arr.mk [((List.length z1 : Nat) : Int)] z5)))) fun K2 => (if ((List.length z1 : Nat) : Int) = 0 then ((ref03_Char 32).bind fun x6 => (K2 x6.items)) else (K2 z1)))) fun K0 => (ref03_Text_l1 a0 K0 FUEL [] 0))
theorem ref03_Text_ok {a0 : ByteArray} {r : Arr} (h : ref03_Text a0 = some r) :
    Fn Try.prog 34 [.s a0] (.d (.ag [.sl (Is r.shape), .sl (Its r.items)])) := by
  unfold ref03_Text at h
  refine Fn.ofC (rs := [.cell 2 25]) (nt := 30) Try.func34 rfl rfl rfl (by simp) rfl ?_
  refine .seq ?_
  refine .region ?_
  refine vk (van (zero_of gI_Arr) gZ_Arr) ?_
  refine rn ?_
  refine .gh (Gh.keep [0, 2] rfl) ?_
  refine .seq ?_
  refine .region ?_
  refine asn ?_
  refine rn ?_
  refine .gh (Gh.keep [0, 2, 3] rfl) ?_
  refine .seq ?_
  refine .seq ?_
  refine .region ?_
  refine vk (vmvd) ?_
  refine vk (vrng st) ?_
  refine rn ?_
  refine .gh (Gh.keep [2, 3, 8] rfl) ?_
  obtain ⟨K0, hK0, h⟩ := jn_out h
  refine AW.mr (σ := (List Itm)) (fun p => K0 p = some r) (fun p => [(2, .nb [.sl (Is []), .sl (Its [])]), (3, .own 38 (Its p))]) (fun p => []) ?_ ?_
  · skip
    refine .block ?_
    refine .gh (Gh.nlOwn (t := 3) 38 (by rw [gz_Itm]; decide) rfl) ?_
    refine .loop (.gh (Gh.keep [2, 3, 8] rfl) ?_)
    refine AL.ind (σ := Nat × (List Itm) × Nat) (m := fun p => p.1) (e := fun p => [(2, .nb [.sl (Is []), .sl (Its [])]), (3, .own 38 (Its p.2.1)), (8, .it a0 p.2.2)]) (h := fun p => []) (I := fun p => ref03_Text_l1 a0 K0 p.1 p.2.1 p.2.2 = some r) ?_ (FUEL, [], 0) h
    rintro ⟨k, s2, s3⟩ h ih
    dsimp only at h ih ⊢
    rcases k with _ | k
    · rw [ref03_Text_l1] at h; cases h
    rw [ref03_Text_l1] at h
    refine .seq ?_
    refine .region ?_
    by_cases hc : s3 < ByteArray.size a0
    · replace h := ite_t hc h
      refine nxt ?_ hc
      refine vk (vex) ?_
      refine rn ?_
      refine .gh (Gh.keep [2, 3, 8, 9, 10] rfl) ?_
      refine .seq ?_
      refine cndt ?_
      refine .skip ?_
      show AW _ _ _ _ _ _
      refine .block ?_
      refine .seq ?_
      refine .region ?_
      refine vk (vex) ?_
      refine asd ?_
      refine rn ?_
      refine .gh (Gh.keep [2, 3, 5, 8] rfl) ?_
      refine .seq ?_
      refine .region ?_
      refine mvo ?_
      refine vk (vlnrE (Its_length _) gu_Its) ?_
      refine vk (vbi) ?_
      refine rn ?_
      refine .gh (Gh.keep [2, 3, 5, 8, 14] rfl) ?_
      by_cases hc : ((List.length s2 : Nat) : Int) < 4096
      · replace h := ite_t hc h
        refine cnt (decide_eq_true hc) ?_
        refine .region ?_
        refine mvo ?_
        refine vk (vmvd) ?_
        refine vk (vbd gP_Itm gI_Itm gZ_Itm) ?_
        refine vk ((vbslE (Its_bs1 (Itm.mk 2 (false, [], []) (rune a0 s3) [])) (Its_flat [(Itm.mk 2 (false, [], []) (rune a0 s3) [])]) ge_Its).deep) ?_
        obtain ⟨x4, hx4, h⟩ := bnd h
        refine apr' Its_app hx4 gB_Its ?_ Its_sz1 Its_length ge_Its
        refine aso ?_
        refine .nil ?_
        refine AL.gh (Gh.keep [2, 3, 8] rfl) ?_
        exact ih (k, x4, (rnext a0 s3)) h (Nat.lt_succ_self _)
      replace h := ite_f hc h
      refine cnf (decide_eq_false hc) ?_
      refine .gh (Gh.keep [2, 3, 8] rfl) ?_
      refine .skip ?_
      exact ih (k, s2, (rnext a0 s3)) h (Nat.lt_succ_self _)
    replace h := ite_f hc h
    refine nxe ?_ hc
    refine vk (vex) ?_
    refine rn ?_
    refine .gh (Gh.keep [2, 3, 8, 9, 10] rfl) ?_
    refine .seq ?_
    refine cndf ?_
    refine .gh (Gh.keep [2, 3] rfl) ?_
    refine .exit ?_
    exact jr (s2) h
  rintro z1 h
  try dsimp only at h ⊢
  subst hK0
  show AW _ _ _ _ _ _
  refine .seq ?_
  refine .region ?_
  refine mvo ?_
  refine vk (vlnrE (Its_length _) gu_Its) ?_
  refine asd ?_
  refine rn ?_
  refine .gh (Gh.keep [2, 3, 6] rfl) ?_
  refine .seq ?_
  refine .seq ?_
  refine .region ?_
  refine vk (vmvd) ?_
  refine vk (vbi) ?_
  refine rn ?_
  refine .gh (Gh.keep [2, 3, 6, 23] rfl) ?_
  obtain ⟨K2, hK2, h⟩ := jn_out h
  refine AW.mr (σ := (List Itm)) (fun p => K2 p = some r) (fun p => [(2, .nb [.sl (Is []), .sl (Its [])]), (3, .d (.sl (Its p))), (6, .d (.i .i64 ((List.length z1 : Nat) : Int)))]) (fun p => []) ?_ ?_
  · skip
    by_cases hc : ((List.length z1 : Nat) : Int) = 0
    · replace h := ite_t hc h
      refine cnt (decide_eq_true hc) ?_
      refine .region ?_
      obtain ⟨x6, hx6, h⟩ := bnd h
      refine vk (vcl0 (ref03_Char_ok hx6) Try.call41) ?_
      refine vk (vfdl gF_Arr_1 gG_Arr_1) ?_
      refine RL.gh (Gh.keep [2, 6, 23, 24, 25] rfl) ?_
      refine asd ?_
      refine RL.gh (Gh.keep [2, 3, 6] rfl) ?_
      refine .nil ?_
      exact jr (x6.items) h
    replace h := ite_f hc h
    refine cnf (decide_eq_false hc) ?_
    refine .gh (Gh.frz (p := .t 3) rfl (fun _ _ h => by cases h)) ?_
    refine .gh (Gh.keep [2, 3, 6] rfl) ?_
    refine .skip ?_
    exact jr (z1) h
  rintro z5 h
  try dsimp only at h ⊢
  subst hK2
  show AW _ _ _ _ _ _
  refine .seq ?_
  refine .region ?_
  refine vk (vmvd) ?_
  refine vk ((vbsl (Is_flat [((List.length z1 : Nat) : Int)]) ge_Is).deep) ?_
  refine vk (vmvd) ?_
  refine vk (vbd gP_Arr gI_Arr gZ_Arr) ?_
  refine stn ?_ gS_Arr (by decide)
  refine rn ?_
  refine .gh (Gh.keep [2] rfl) ?_
  refine .ret ?_
  cases h
  exact ⟨_, ⟨.inr rfl, gA_Arr, gS_Arr, (by decide : (0 : Nat) < 2)⟩, rfl⟩
end Go.FL
/-
  Plain laws of arrays, 1: copies, types, equal arrays.
-/
namespace Go.FL
open Go Go.Proofs

/-- A test's answer. -/
def Tells (x : Option Bool) (p : Prop) : Prop := ∃ r, x = some r ∧ (r = true ↔ p)
theorem Tells.of {x : Option Bool} {p q : Prop} (h : Tells x p) (e : p ↔ q) : Tells x q := by
  obtain ⟨r, h1, h2⟩ := h; exact ⟨r, h1, h2.trans e⟩
theorem Tells.yes {x : Option Bool} {p : Prop} (h : Tells x p) (hp : p) : x = some true := by
  obtain ⟨r, h1, h2⟩ := h; rw [h1, h2.2 hp]
theorem Tells.no {x : Option Bool} {p : Prop} (h : Tells x p) (hp : ¬ p) : x = some false := by
  obtain ⟨r, h1, h2⟩ := h
  cases r with
  | true => exact absurd (h2.1 rfl) hp
  | false => exact h1

theorem jn_ar {α β : Type} (k : α) (b : α → β) : jn k b = b k := rfl

/-! ### copies -/
theorem clone_int {s : List Int} (h : s.length ≤ 17592186044416) : sClone_int s = some s := by unfold sClone_int; rw [ap_eq (by simpa using h), List.nil_append]
theorem copiedRat_eq {r : RT} (h : okRB r = true) : array_copiedRat r = some r := by
  have h1 := okRB_iff.1 h
  unfold array_copiedRat
  rw [sCloneL, if_pos h1.2.2.1, Option.bind_some, sCloneL, if_pos h1.2.2.2, Option.bind_some]
theorem number_item {r : RT} (h : okRB r = true) : array_number r = some (.mk 1 r 0 []) := by
  unfold array_number; rw [copiedRat_eq h, Option.bind_some]
theorem copied_loop {a : Arr} {f : FT_Itm__Itm} {h : Itm → Itm} (hf : ∀ x ∈ a.items, f.g x = some (h x)) (K : List Int → List Itm → Option Arr) (hl : a.items.length ≤ 1466015503701) : ∀ (n i k : Nat) (s : List Int) (t : List Itm), n = a.items.length - i → i ≤ a.items.length → n < k → t.length = i →
    array_copied_l1 a f K k (i : Int) s t = K s (t ++ (a.items.drop i).map h)
  | n, i, 0, s, t, _, _, h, _ => by omega
  | n, i, k + 1, s, t, hn, hi, hk, ht => by
    rw [array_copied_l1]
    by_cases hlt : i < a.items.length
    · rw [if_pos (by omega), rd_get hlt, Option.bind_some, hf _ (List.getElem_mem _), Option.bind_some, ap_eq (by simp; omega), Option.bind_some, w64_nat (by omega),
        copied_loop hf K hl (n - 1) (i + 1) k s _ (by omega) (by omega) (by omega) (by simp [ht]), List.drop_eq_getElem_cons hlt, List.map_cons, List.append_assoc]
      rfl
    · rw [if_neg (by omega), List.drop_of_length_le (by omega)]; simp
theorem copied_eq {a : Arr} {f : FT_Itm__Itm} {h : Itm → Itm} (hf : ∀ x ∈ a.items, f.g x = some (h x)) (hs : a.shape.length ≤ 17592186044416) (hl : a.items.length ≤ 1466015503701) : array_copied a f = some (.mk a.shape (a.items.map h)) := by
  unfold array_copied
  rw [clone_int hs, Option.bind_some]
  simp only [jn]
  have := copied_loop hf (fun z2 z3 => some (Arr.mk z2 z3)) hl a.items.length 0 FUEL a.shape [] rfl (Nat.zero_le _) (fuel_gt (by omega)) rfl
  rw [List.drop_zero, show ((0 : Nat) : Int) = 0 from rfl, List.nil_append] at this
  exact this
theorem sameB_loop {rc : Itm → Option Itm} {x : Itm} (hb : ∀ a ∈ x.box, okAr a) (hrc : ∀ a ∈ x.box, ∀ y ∈ a.items, rc y = some y) (K : Int → Bool → List Nat → List Nat → Int → List Arr → Option Itm) (hl : x.box.length ≤ 2932031007402) : ∀ (n i k : Nat) (s1 : Int) (s2 : Bool) (s3 s4 : List Nat) (s5 : Int) (t : List Arr), n = x.box.length - i → i ≤ x.box.length → n < k → t.length = i →
    ar_sameB_l1 rc x K k (i : Int) s1 s2 s3 s4 s5 t = K s1 s2 s3 s4 s5 (t ++ x.box.drop i)
  | n, i, 0, s1, s2, s3, s4, s5, t, _, _, h, _ => by omega
  | n, i, k + 1, s1, s2, s3, s4, s5, t, hn, hi, hk, ht => by
    rw [ar_sameB_l1]
    by_cases hlt : i < x.box.length
    · have hm := List.getElem_mem hlt
      have ho := (okAr_iff _).1 (hb _ hm)
      have hc := copied_eq (a := x.box[i]) (f := ⟨.fn 60 [] [], fun x => rc x⟩) (h := id) (fun y hy => hrc _ hm y hy) ho.2.1 ho.2.2.1
      rw [List.map_id, Arr.eta] at hc
      rw [if_pos (by omega), rd_get hlt, Option.bind_some, hc, Option.bind_some, ap_eq (by simp; omega), Option.bind_some, w64_nat (by omega),
        sameB_loop hb hrc K hl (n - 1) (i + 1) k s1 s2 s3 s4 s5 _ (by omega) (by omega) (by omega) (by simp [ht]), List.drop_eq_getElem_cons hlt, List.append_assoc]
      rfl
    · rw [if_neg (by omega), List.drop_of_length_le (by omega)]; simp
theorem same_r_eq : ∀ (k : Nat) {x : Itm}, x.size < k → okI x → ar_same_r k x = some x
  | 0, x, h, _ => by omega
  | k + 1, x, h, ho => by
    have h1 := (okI_iff x).1 ho
    rw [ar_same_r, ar_sameB, copiedRat_eq h1.2.1, Option.bind_some]
    simp only [jn]
    have := sameB_loop (rc := ar_same_r k) (x := x) h1.2.2.2.2 (fun a ha y hy => same_r_eq k (by have := size_box ha; have := size_in hy; omega) (((okAr_iff a).1 (h1.2.2.2.2 a ha)).2.2.2 y hy))
      (fun z2 z3 z4 z5 z6 z7 => some (Itm.mk z2 (z3, z4, z5) z6 z7)) h1.2.2.2.1 x.box.length 0 FUEL x.kind x.num.1 x.num.2.1 x.num.2.2 x.char [] rfl (Nat.zero_le _) (fuel_gt (by omega)) rfl
    rw [List.drop_zero, show ((0 : Nat) : Int) = 0 from rfl, List.nil_append] at this
    rw [this]
    exact congrArg some (Itm.eta x)
theorem arSame_eq {x : Itm} (h : okI x) : ar_same x = some x := same_r_eq _ (Nat.lt_succ_self _) h
theorem copySame_eq {a : Arr} (h : okAr a) : array_copied a (⟨.fn 60 [] [], fun x => ar_same x⟩ : FT_Itm__Itm) = some a := by
  have ho := (okAr_iff a).1 h
  have := copied_eq (a := a) (f := ⟨.fn 60 [] [], fun x => ar_same x⟩) (h := id) (fun y hy => arSame_eq (ho.2.2.2 y hy)) ho.2.1 ho.2.2.1
  rwa [List.map_id, Arr.eta] at this

/-! ### equal arrays -/
theorem equalInt_loop {a b : List Int} (hab : a.length = b.length) (K : Bool → Option Bool) (hl : a.length ≤ 17592186044416) : ∀ (n i k : Nat) (s : Bool), n = a.length - i → i ≤ a.length → n < k →
    slices_Equal_int_int_l1 a b K k s (i : Int) = if a.drop i = b.drop i then K s else some false
  | n, i, 0, s, _, _, h => by omega
  | n, i, k + 1, s, hn, hi, hk => by
    rw [slices_Equal_int_int_l1]
    by_cases hlt : i < a.length
    · rw [if_pos (by omega), rd_get hlt, Option.bind_some, rd_get (by omega : i < b.length), Option.bind_some, List.drop_eq_getElem_cons hlt, List.drop_eq_getElem_cons (by omega : i < b.length)]
      by_cases hc : a[i] = b[i]
      · rw [if_pos hc, w64_nat (by omega), equalInt_loop hab K hl (n - 1) (i + 1) k s (by omega) (by omega) (by omega)]
        simp only [hc, List.cons.injEq, true_and]
      · rw [if_neg hc, if_neg (fun h => hc (List.cons.inj h).1)]
    · rw [if_neg (by omega), List.drop_of_length_le (by omega), List.drop_of_length_le (by omega), if_pos rfl]
theorem equalInt {a b : List Int} (hl : a.length ≤ 17592186044416) : slices_Equal_int_int a b = some (decide (a = b)) := by
  unfold slices_Equal_int_int
  by_cases hab : a.length = b.length
  · rw [if_pos (by omega)]
    simp only [jn]
    have := equalInt_loop hab (fun _ => some true) hl a.length 0 FUEL false rfl (Nat.zero_le _) (fuel_gt (by omega))
    rw [List.drop_zero, List.drop_zero, show ((0 : Nat) : Int) = 0 from rfl] at this
    rw [this]
    by_cases h : a = b <;> simp [h]
  · rw [if_neg (by omega)]
    rw [decide_eq_false fun h => hab (by rw [h])]
theorem equalI_loop {a b : List Itm} {f : FT_Itm_Itm__bool} (hf : ∀ x ∈ a, ∀ y ∈ b, Tells (f.g (x, y)) (x = y)) (hab : a.length = b.length) (K : Bool → Option Bool) (hK : ∀ s, K s = some true) (hl : a.length ≤ 17592186044416) : ∀ (n i k : Nat) (s : Bool), n = a.length - i → i ≤ a.length → n < k →
    Tells (slices_EqualFunc_api_Item_api_Item_api_Item_api_Item_l1 a b f K k s (i : Int)) (a.drop i = b.drop i)
  | n, i, 0, s, _, _, h => by omega
  | n, i, k + 1, s, hn, hi, hk => by
    rw [slices_EqualFunc_api_Item_api_Item_api_Item_api_Item_l1]
    by_cases hlt : i < a.length
    · have hlt2 : i < b.length := by omega
      rw [if_pos (by omega), rd_get hlt, Option.bind_some, rd_get hlt2, Option.bind_some, List.drop_eq_getElem_cons hlt, List.drop_eq_getElem_cons hlt2]
      obtain ⟨r, h1, h2⟩ := hf _ (List.getElem_mem hlt) _ (List.getElem_mem hlt2)
      rw [h1, Option.bind_some]
      by_cases hc : r = true
      · rw [if_pos hc, w64_nat (by omega)]
        refine (equalI_loop hf hab K hK hl (n - 1) (i + 1) k s (by omega) (by omega) (by omega)).of ?_
        rw [List.cons.injEq]; exact ⟨fun h => ⟨h2.1 hc, h⟩, fun h => h.2⟩
      · rw [if_neg hc]
        exact ⟨false, rfl, ⟨nofun, fun h => absurd (h2.2 (List.cons.inj h).1) hc⟩⟩
    · rw [if_neg (by omega), List.drop_of_length_le (by omega), List.drop_of_length_le (by omega), hK]; exact ⟨true, rfl, by simp⟩
theorem equalI {a b : List Itm} {f : FT_Itm_Itm__bool} (hf : ∀ x ∈ a, ∀ y ∈ b, Tells (f.g (x, y)) (x = y)) (hl : a.length ≤ 17592186044416) : Tells (slices_EqualFunc_api_Item_api_Item_api_Item_api_Item a b f) (a = b) := by
  unfold slices_EqualFunc_api_Item_api_Item_api_Item_api_Item
  by_cases hab : a.length = b.length
  · rw [if_pos (by omega)]
    simp only [jn]
    have := equalI_loop hf hab (fun _ => some true) (fun _ => rfl) hl a.length 0 FUEL false rfl (Nat.zero_le _) (fuel_gt (by omega))
    rw [List.drop_zero, List.drop_zero, show ((0 : Nat) : Int) = 0 from rfl] at this
    exact this
  · rw [if_neg (by omega)]
    exact ⟨false, rfl, by simp; intro h; exact hab (by rw [h])⟩
theorem equalA_loop {a b : List Arr} {f : FT_Arr_Arr__bool} (hf : ∀ x ∈ a, ∀ y ∈ b, Tells (f.g (x, y)) (x = y)) (hab : a.length = b.length) (K : Bool → Option Bool) (hK : ∀ s, K s = some true) (hl : a.length ≤ 17592186044416) : ∀ (n i k : Nat) (s : Bool), n = a.length - i → i ≤ a.length → n < k →
    Tells (slices_EqualFunc_api_Array_api_Array_api_Array_api_Array_l1 a b f K k s (i : Int)) (a.drop i = b.drop i)
  | n, i, 0, s, _, _, h => by omega
  | n, i, k + 1, s, hn, hi, hk => by
    rw [slices_EqualFunc_api_Array_api_Array_api_Array_api_Array_l1]
    by_cases hlt : i < a.length
    · have hlt2 : i < b.length := by omega
      rw [if_pos (by omega), rd_get hlt, Option.bind_some, rd_get hlt2, Option.bind_some, List.drop_eq_getElem_cons hlt, List.drop_eq_getElem_cons hlt2]
      obtain ⟨r, h1, h2⟩ := hf _ (List.getElem_mem hlt) _ (List.getElem_mem hlt2)
      rw [h1, Option.bind_some]
      by_cases hc : r = true
      · rw [if_pos hc, w64_nat (by omega)]
        refine (equalA_loop hf hab K hK hl (n - 1) (i + 1) k s (by omega) (by omega) (by omega)).of ?_
        rw [List.cons.injEq]; exact ⟨fun h => ⟨h2.1 hc, h⟩, fun h => h.2⟩
      · rw [if_neg hc]
        exact ⟨false, rfl, ⟨nofun, fun h => absurd (h2.2 (List.cons.inj h).1) hc⟩⟩
    · rw [if_neg (by omega), List.drop_of_length_le (by omega), List.drop_of_length_le (by omega), hK]; exact ⟨true, rfl, by simp⟩
theorem equalA {a b : List Arr} {f : FT_Arr_Arr__bool} (hf : ∀ x ∈ a, ∀ y ∈ b, Tells (f.g (x, y)) (x = y)) (hl : a.length ≤ 17592186044416) : Tells (slices_EqualFunc_api_Array_api_Array_api_Array_api_Array a b f) (a = b) := by
  unfold slices_EqualFunc_api_Array_api_Array_api_Array_api_Array
  by_cases hab : a.length = b.length
  · rw [if_pos (by omega)]
    simp only [jn]
    have := equalA_loop hf hab (fun _ => some true) (fun _ => rfl) hl a.length 0 FUEL false rfl (Nat.zero_le _) (fuel_gt (by omega))
    rw [List.drop_zero, List.drop_zero, show ((0 : Nat) : Int) = 0 from rfl] at this
    exact this
  · rw [if_neg (by omega)]
    exact ⟨false, rfl, by simp; intro h; exact hab (by rw [h])⟩
mutual
/-- Numbers without many limbs. -/
def smI : Itm → Prop
  | .mk _ n _ b => okL 1048576 n.2.1 = true ∧ okL 1048576 n.2.2 = true ∧ smAs b
def smA : Arr → Prop
  | .mk _ i => smIs i
def smIs : List Itm → Prop
  | [] => True
  | x :: xs => smI x ∧ smIs xs
def smAs : List Arr → Prop
  | [] => True
  | x :: xs => smA x ∧ smAs xs
end
theorem smIs_mem : ∀ {xs : List Itm}, smIs xs ↔ ∀ x ∈ xs, smI x
  | [] => by simp [smIs]
  | x :: xs => by simp [smIs, smIs_mem (xs := xs)]
theorem smAs_mem : ∀ {xs : List Arr}, smAs xs ↔ ∀ x ∈ xs, smA x
  | [] => by simp [smAs]
  | x :: xs => by simp [smAs, smAs_mem (xs := xs)]
theorem smI_iff (x : Itm) : smI x ↔ okL 1048576 x.num.2.1 = true ∧ okL 1048576 x.num.2.2 = true ∧ ∀ a ∈ x.box, smA a := by cases x; simp only [smI, smAs_mem, Itm.num, Itm.box]
theorem smA_iff (a : Arr) : smA a ↔ ∀ x ∈ a.items, smI x := by cases a; simp only [smA, smIs_mem, Arr.items]
theorem Itm.ext_iff' (x y : Itm) : x = y ↔ x.kind = y.kind ∧ x.char = y.char ∧ x.num = y.num ∧ x.box = y.box := by
  cases x; cases y; simp only [Itm.mk.injEq, Itm.kind, Itm.char, Itm.num, Itm.box]
  constructor
  · rintro ⟨a, b, c, d⟩; exact ⟨a, c, b, d⟩
  · rintro ⟨a, b, c, d⟩; exact ⟨a, c, b, d⟩
theorem Arr.ext_iff' (x y : Arr) : x = y ↔ x.shape = y.shape ∧ x.items = y.items := by cases x; cases y; simp only [Arr.mk.injEq, Arr.shape, Arr.items]
theorem equal1_eq {rc : Arr → Arr → Option Bool} {x y : Itm} (hx : okI x) (hy : okI y) (hs : smI x) (hrc : ∀ a ∈ x.box, ∀ b ∈ y.box, Tells (rc a b) (a = b)) : Tells (ar_equal1 rc x y) (x = y) := by
  have ox := (okI_iff x).1 hx
  have oy := okRB_iff.1 ((okI_iff y).1 hy).2.1
  have sx := (smI_iff x).1 hs
  have yl : okL 35184372087808 y.num.2.1 = true ∧ okL 35184372087808 y.num.2.2 = true := ⟨okL_iff.2 ⟨oy.1, oy.2.2.1⟩, okL_iff.2 ⟨oy.2.1, oy.2.2.2⟩⟩
  unfold ar_equal1
  rw [Itm.ext_iff']
  by_cases h1 : x.kind = y.kind
  rotate_left
  · rw [if_neg h1]; exact ⟨false, rfl, by simp [h1]⟩
  rw [if_pos h1]
  by_cases h2 : x.char = y.char
  rotate_left
  · rw [if_neg h2]; exact ⟨false, rfl, by simp [h2]⟩
  rw [if_pos h2]
  by_cases h3 : (x.num.1 == y.num.1) = true
  rotate_left
  · rw [if_neg h3]; exact ⟨false, rfl, by simp; intro _ _ h; simp [h] at h3⟩
  rw [if_pos h3, sEqualL, if_pos (by rw [sx.1, yl.1]; rfl), Option.bind_some]
  by_cases h4 : x.num.2.1 = y.num.2.1
  rotate_left
  · rw [if_neg (by simpa using h4)]; exact ⟨false, rfl, by simp; intro _ _ h; simp [h] at h4⟩
  rw [if_pos (by simpa using h4), sEqualL, if_pos (by rw [sx.2.1, yl.2]; rfl), Option.bind_some]
  by_cases h5 : x.num.2.2 = y.num.2.2
  rotate_left
  · rw [if_neg (by simpa using h5)]; exact ⟨false, rfl, by simp; intro _ _ h; simp [h] at h5⟩
  rw [if_pos (by simpa using h5)]
  obtain ⟨r, g1, g2⟩ := equalA (a := x.box) (b := y.box) (f := ⟨.fn 87 [] [], fun x => rc x.1 x.2⟩) hrc (Nat.le_trans ox.2.2.2.1 (by decide))
  rw [g1]
  refine ⟨r, rfl, g2.trans ?_⟩
  have hn : x.num = y.num := Prod.ext (by simpa using h3) (Prod.ext h4 h5)
  simp [h1, h2, hn]
theorem equal_r_eq : ∀ (k : Nat) {a b : Arr}, a.size < k → okAr a → okAr b → smA a → Tells (ar_equal_r k a b) (a = b)
  | 0, a, b, h, _, _, _ => by omega
  | k + 1, a, b, h, ha, hb, hs => by
    have oa := (okAr_iff a).1 ha
    have ob := (okAr_iff b).1 hb
    have sa := (smA_iff a).1 hs
    rw [ar_equal_r, ar_equalB, equalInt oa.2.1, Option.bind_some, Arr.ext_iff']
    by_cases h1 : a.shape = b.shape
    rotate_left
    · rw [if_neg (by simpa using h1)]; exact ⟨false, rfl, by simp [h1]⟩
    rw [if_pos (by simpa using h1)]
    obtain ⟨r, g1, g2⟩ := equalI (a := a.items) (b := b.items) (f := ⟨.fn 120 [] [], fun x => ar_equal1 (ar_equal_r k) x.1 x.2⟩) (fun x hx y hy => equal1_eq (oa.2.2.2 x hx) (ob.2.2.2 y hy) (sa x hx) fun p hp q hq =>
      equal_r_eq k (by have := size_in hx; have : p.size < x.size := size_box hp; omega) (((okI_iff x).1 (oa.2.2.2 x hx)).2.2.2.2 p hp) (((okI_iff y).1 (ob.2.2.2 y hy)).2.2.2.2 q hq) (((smI_iff x).1 (sa x hx)).2.2 p hp)) (Nat.le_trans oa.2.2.1 (by decide))
    rw [g1]
    exact ⟨r, rfl, g2.trans (by simp [h1])⟩
theorem equal_eq {a b : Arr} (ha : okAr a) (hb : okAr b) (hs : smA a) : Tells (ar_equal a b) (a = b) := equal_r_eq _ (Nat.lt_succ_self _) ha hb hs

/-! ### glyphref03.Same -/
theorem r3s_boxes {rc : Arr → Arr → Option Bool} {x y : Itm} (hrc : ∀ a ∈ x.box, ∀ b ∈ y.box, Tells (rc a b) (a = b)) (hab : x.box.length = y.box.length) (K : Bool → Option Bool) (hK : ∀ s, K s = some true) (hl : x.box.length ≤ 17592186044416) : ∀ (n i k : Nat) (s : Bool), n = x.box.length - i → i ≤ x.box.length → n < k →
    Tells (ref3_SameItemB_l1 rc x y K k s (i : Int)) (x.box.drop i = y.box.drop i)
  | n, i, 0, s, _, _, h => by omega
  | n, i, k + 1, s, hn, hi, hk => by
    rw [ref3_SameItemB_l1]
    by_cases hlt : i < x.box.length
    · have hlt2 : i < y.box.length := by omega
      rw [if_pos (by omega), rd_get hlt, Option.bind_some, rd_get hlt2, Option.bind_some, List.drop_eq_getElem_cons hlt, List.drop_eq_getElem_cons hlt2]
      obtain ⟨r, h1, h2⟩ := hrc _ (List.getElem_mem hlt) _ (List.getElem_mem hlt2)
      rw [h1, Option.bind_some]
      by_cases hc : r = true
      · rw [if_pos hc, w64_nat (by omega)]
        refine (r3s_boxes hrc hab K hK hl (n - 1) (i + 1) k s (by omega) (by omega) (by omega)).of ?_
        rw [List.cons.injEq]; exact ⟨fun h => ⟨h2.1 hc, h⟩, fun h => h.2⟩
      · rw [if_neg hc]
        exact ⟨false, rfl, ⟨nofun, fun h => absurd (h2.2 (List.cons.inj h).1) hc⟩⟩
    · rw [if_neg (by omega), List.drop_of_length_le (by omega), List.drop_of_length_le (by omega), hK]; exact ⟨true, rfl, by simp⟩
theorem r3_sameItemB {rc : Arr → Arr → Option Bool} {x y : Itm} (hx : okI x) (hrc : ∀ a ∈ x.box, ∀ b ∈ y.box, Tells (rc a b) (a = b)) : Tells (ref3_SameItemB rc x y) (x = y) := by
  have ox := (okI_iff x).1 hx
  have on := okRB_iff.1 ox.2.1
  unfold ref3_SameItemB
  rw [Itm.ext_iff']
  by_cases h1 : x.kind = y.kind
  rotate_left
  · rw [if_neg h1]; exact ⟨false, rfl, by simp [h1]⟩
  rw [if_pos h1]
  by_cases h2 : x.char = y.char
  rotate_left
  · rw [if_neg h2]; exact ⟨false, rfl, by simp [h2]⟩
  rw [if_pos h2, ref2Same, if_pos (by simp [on.2.2.1, on.2.2.2]), Option.bind_some]
  by_cases h3 : x.num = y.num
  rotate_left
  · rw [if_neg (by simpa using h3)]; exact ⟨false, rfl, by simp [h3]⟩
  rw [if_pos (by simpa using h3), Option.bind_some]
  by_cases h4 : x.box.length = y.box.length
  rotate_left
  · rw [if_pos (by simp; omega)]; exact ⟨false, rfl, by simp; intro _ _ _ h; rw [h] at h4; exact h4 rfl⟩
  rw [if_neg (by simp; omega)]
  simp only [jn]
  have := r3s_boxes hrc h4 (fun _ => some true) (fun _ => rfl) (Nat.le_trans ox.2.2.2.1 (by decide)) x.box.length 0 FUEL false rfl (Nat.zero_le _) (fuel_gt (by omega))
  rw [List.drop_zero, List.drop_zero, show ((0 : Nat) : Int) = 0 from rfl] at this
  exact this.of (by simp [h1, h2, h3])
theorem r3s_shape {a b : Arr} (hab : a.shape.length = b.shape.length) (K : Bool → Option Bool) {p : Prop} (hK : ∀ s, Tells (K s) p) (hl : a.shape.length ≤ 17592186044416) : ∀ (n i k : Nat) (s : Bool), n = a.shape.length - i → i ≤ a.shape.length → n < k →
    Tells (ref3_SameB_l1 a b K k s (i : Int)) (a.shape.drop i = b.shape.drop i ∧ p)
  | n, i, 0, s, _, _, h => by omega
  | n, i, k + 1, s, hn, hi, hk => by
    rw [ref3_SameB_l1]
    by_cases hlt : i < a.shape.length
    · have hlt2 : i < b.shape.length := by omega
      rw [if_pos (by omega), rd_get hlt, Option.bind_some, rd_get hlt2, Option.bind_some, List.drop_eq_getElem_cons hlt, List.drop_eq_getElem_cons hlt2]
      by_cases hc : a.shape[i] = b.shape[i]
      · rw [if_pos hc, w64_nat (by omega)]
        exact (r3s_shape hab K hK hl (n - 1) (i + 1) k s (by omega) (by omega) (by omega)).of (by rw [List.cons.injEq]; exact ⟨fun h => ⟨⟨hc, h.1⟩, h.2⟩, fun h => ⟨h.1.2, h.2⟩⟩)
      · rw [if_neg hc]
        exact ⟨false, rfl, ⟨nofun, fun h => absurd (List.cons.inj h.1).1 hc⟩⟩
    · rw [if_neg (by omega), List.drop_of_length_le (by omega), List.drop_of_length_le (by omega)]; exact (hK s).of (by simp)
theorem r3s_items {rc : Arr → Arr → Option Bool} {a b : Arr} (hrc : ∀ x ∈ a.items, ∀ y ∈ b.items, Tells (ref3_SameItemB rc x y) (x = y)) (hab : a.items.length = b.items.length) (K : Bool → Option Bool) (hK : ∀ s, K s = some true) (hl : a.items.length ≤ 17592186044416) : ∀ (n i k : Nat) (s : Bool), n = a.items.length - i → i ≤ a.items.length → n < k →
    Tells (ref3_SameB_l3 rc a b K k s (i : Int)) (a.items.drop i = b.items.drop i)
  | n, i, 0, s, _, _, h => by omega
  | n, i, k + 1, s, hn, hi, hk => by
    rw [ref3_SameB_l3]
    by_cases hlt : i < a.items.length
    · have hlt2 : i < b.items.length := by omega
      rw [if_pos (by omega), rd_get hlt, Option.bind_some, rd_get hlt2, Option.bind_some, List.drop_eq_getElem_cons hlt, List.drop_eq_getElem_cons hlt2]
      obtain ⟨r, h1, h2⟩ := hrc _ (List.getElem_mem hlt) _ (List.getElem_mem hlt2)
      rw [h1, Option.bind_some]
      by_cases hc : r = true
      · rw [if_pos hc, w64_nat (by omega)]
        refine (r3s_items hrc hab K hK hl (n - 1) (i + 1) k s (by omega) (by omega) (by omega)).of ?_
        rw [List.cons.injEq]; exact ⟨fun h => ⟨h2.1 hc, h⟩, fun h => h.2⟩
      · rw [if_neg hc]
        exact ⟨false, rfl, ⟨nofun, fun h => absurd (h2.2 (List.cons.inj h).1) hc⟩⟩
    · rw [if_neg (by omega), List.drop_of_length_le (by omega), List.drop_of_length_le (by omega), hK]; exact ⟨true, rfl, by simp⟩
theorem r3_sameB {rc : Arr → Arr → Option Bool} {a b : Arr} (oa : a.shape.length ≤ 17592186044416 ∧ a.items.length ≤ 1466015503701) (ih : ∀ x ∈ a.items, ∀ y ∈ b.items, Tells (ref3_SameItemB rc x y) (x = y)) : Tells (ref3_SameB rc a b) (a = b) := by
  rw [ref3_SameB, Arr.ext_iff']
  by_cases h1 : a.shape.length = b.shape.length ∧ a.items.length = b.items.length
  rotate_left
  · rw [if_pos (by simp; omega)]; exact ⟨false, rfl, by simp; intro e1 e2; exact h1 ⟨by rw [e1], by rw [e2]⟩⟩
  rw [if_neg (by simp; omega)]
  rw [jn_ar]
  have h2 := r3s_shape h1.1 (p := a.items = b.items) (fun z1 => jn (fun (z6 : Bool) => (some (true))) fun K2 => (ref3_SameB_l3 rc a b K2 FUEL z1 0)) (fun s => by
    rw [jn_ar]
    have h3 := r3s_items ih h1.2 (fun _ => some true) (fun _ => rfl) (Nat.le_trans oa.2 (by decide)) a.items.length 0 FUEL s rfl (Nat.zero_le _) (fuel_gt (by omega))
    rw [show ((0 : Nat) : Int) = 0 from rfl, List.drop_zero, List.drop_zero] at h3
    exact h3) oa.1 a.shape.length 0 FUEL false rfl (Nat.zero_le _) (fuel_gt (by omega))
  rw [show ((0 : Nat) : Int) = 0 from rfl, List.drop_zero, List.drop_zero] at h2
  exact h2
theorem r3_same_r : ∀ (k : Nat) {a b : Arr}, a.size < k → okAr a → Tells (ref3_Same_r k a b) (a = b)
  | 0, a, b, h, _ => by omega
  | k + 1, a, b, h, ha => by
    have oa := (okAr_iff a).1 ha
    rw [ref3_Same_r]
    exact r3_sameB ⟨oa.2.1, oa.2.2.1⟩ fun x hx y hy => r3_sameItemB (oa.2.2.2 x hx) fun p hp q hq =>
      r3_same_r k (by have := size_in hx; have : p.size < x.size := size_box hp; omega) (((okI_iff x).1 (oa.2.2.2 x hx)).2.2.2.2 p hp)
theorem r3_same {a b : Arr} (ha : okAr a) : Tells (ref3_Same a b) (a = b) := r3_same_r _ (Nat.lt_succ_self _) ha
end Go.FL
/-
  slices.IndexFunc, slices.ContainsFunc of items, with a function that may write into objects.
-/
namespace Go.FL
open Go Go.Proofs

section
variable {S : Type} (step : Itm → S → Option (Bool × S))
/-- The first item of which the function says so, from the place i on; what is then. -/
def idxS : List Itm → S → Int → Option (Int × S)
  | [], s, _ => some (-1, s)
  | x :: xs, s, i => (step x s).bind fun r => if r.1 = true then some (i, r.2) else idxS xs r.2 (i + 1)
end
theorem w64_id {z : Int} (h1 : -9223372036854775808 ≤ z) (h2 : z ≤ 9223372036854775807) : w64 z = z := by
  simp only [w64, IntKind.wrap, IntKind.bits, IntKind.signed]; simp; omega
abbrev dvI (x : Itm) : DV := .ag [.i .u8 x.kind, .b x.num.1, .sl (L x.num.2.1), .sl (L x.num.2.2), .i .i32 x.char, .sl (Ars x.box)]
abbrev dvA (x : Arr) : DV := .ag [.sl (Is x.shape), .sl (Its x.items)]

set_option maxRecDepth 10000 in
theorem IndexFuncI_R {S : Type} {step : Itm → S → Option (Bool × S)} {st : S → Heap → Prop} {f : FuncId} {caps : List AV} (hcall : ∀ args w, (callFunc f args).run Try.prog w = .ok (.enter f args) w) (hnc : noOwnL caps = true)
    (hstep : ∀ (x : Itm) s r H, st s H → step x s = some r → FnR Try.prog f (.d (dvI x) :: caps) H fun v H' => v = .d (.b r.1) ∧ st r.2 H')
    {xs : List Itm} {s : S} {r : Int × S} (hl : xs.length ≤ 9223372036854775806) (h : idxS step xs s 0 = some r) {H : Heap} (hs : st s H) :
    FnR Try.prog 94 [.d (.sl (Its xs)), .fn f [] caps] H fun v H' => v = .d (.i .i64 r.1) ∧ st r.2 H' := by
  have hfn : noOwn (.fn f [] caps) = true := by simp [noOwn, noOwnL, hnc]
  refine FnR.of (rs := [.tmp 4]) 19 Try.func94 rfl rfl rfl (by simp) ?_
  refine .seq ?_
  refine .region ?_
  refine asd ?_
  refine rn ?_
  refine .seq ?_
  refine .seq ?_
  refine .region ?_
  refine vk (vmvd) ?_
  refine vk (vlnE (Its_length _) (Its_sz _) gu_Its) ?_
  refine vk (vmvd) ?_
  refine rn ?_
  refine .block ?_
  refine .loop (.gh (Gh.keep [0, 1, 7, 8] rfl) ?_)
  refine AL.ind (σ := Nat × S × Heap) (m := fun p => xs.length - p.1) (e := fun p => [(0, .d (.sl (Its xs))), (1, .fn f [] caps), (7, .d (.i .i64 ((List.length xs : Nat) : Int))), (8, .d (.i .i64 ((p.1 : Nat) : Int)))]) (h := fun p => p.2.2)
    (I := fun p => p.1 ≤ xs.length ∧ st p.2.1 p.2.2 ∧ idxS step (xs.drop p.1) p.2.1 (p.1 : Int) = some r) ?_ (0, s, H) ⟨Nat.zero_le _, hs, h⟩
  rintro ⟨i, s, H⟩ ⟨hi, hs, h⟩ ih
  dsimp only at hi hs h ih ⊢
  refine .seq ?_
  refine .region ?_
  refine vk (vbi) ?_
  refine rn ?_
  refine .seq ?_
  by_cases hc : ((i : Nat) : Int) < ((List.length xs : Nat) : Int)
  · refine cnt (decide_eq_true hc) ?_
    have hlt : i < xs.length := by omega
    rw [List.drop_eq_getElem_cons hlt, idxS] at h
    obtain ⟨z, hz, h⟩ := bnd h
    refine .skip ?_
    show AW _ _ _ _ _ _
    refine .seq ?_
    refine .block ?_
    refine .seq ?_
    refine .region ?_
    refine vk (vmvd) ?_
    refine asd ?_
    refine rn ?_
    refine .seq ?_
    refine .region ?_
    refine vk (vmvA (av := .fn f [] caps) (hn := hfn)) ?_
    refine vk (vmvd) ?_
    refine vk (vmvd) ?_
    refine vk (vix i rfl (Its_at (List.getElem?_eq_getElem hlt)) rfl gs_Its) ?_
    refine vk (vlda gA_Itm gS_Itm) ?_
    refine clRv (avs := [.d (dvI xs[i])]) (hstep _ _ _ _ hs hz) hcall (fun v H' hp => ?_) (hnc := hnc)
    obtain ⟨rfl, hs'⟩ := hp
    refine rn ?_
    by_cases hc : z.1 = true
    · refine cnt hc ?_
      rw [if_pos hc] at h
      cases h
      refine .seq ?_
      refine .region ?_
      refine vk (vmvd) ?_
      refine asd ?_
      refine rn ?_
      refine .ret ?_
      exact ⟨_, ⟨rfl, rfl⟩, rfl, hs'⟩
    refine cnf (bf hc) ?_
    rw [if_neg hc] at h
    refine .skip ?_
    show AW _ _ _ _ _ _
    refine .region ?_
    refine vk (vbi) ?_
    refine vk (vmvd) ?_
    refine .nil ?_
    have hw : IntKind.wrap .i64 ((i : Int) + 1) = ((i + 1 : Nat) : Int) := by rw [show IntKind.wrap .i64 ((i : Int) + 1) = (i : Int) + 1 from w64_id (by omega) (by omega)]; omega
    rw [hw]
    refine AL.gh (Gh.keep [0, 1, 7, 8] rfl) ?_
    exact ih (i + 1, z.2, H') ⟨hlt, hs', by rw [← h]; simp⟩ (by dsimp only; omega)
  · refine cnf (decide_eq_false hc) ?_
    have : i = xs.length := by omega
    subst this
    rw [List.drop_length, idxS] at h
    cases h
    refine .exit ?_
    show AW _ _ _ _ _ _
    refine .seq ?_
    refine .region ?_
    refine asd ?_
    refine rn ?_
    refine .ret ?_
    exact ⟨_, ⟨rfl, rfl⟩, rfl, hs⟩
theorem ContainsFuncI_R {S : Type} {step : Itm → S → Option (Bool × S)} {st : S → Heap → Prop} {f : FuncId} {caps : List AV} (hcall : ∀ args w, (callFunc f args).run Try.prog w = .ok (.enter f args) w) (hnc : noOwnL caps = true)
    (hstep : ∀ (x : Itm) s r H, st s H → step x s = some r → FnR Try.prog f (.d (dvI x) :: caps) H fun v H' => v = .d (.b r.1) ∧ st r.2 H')
    {xs : List Itm} {s : S} {r : Int × S} (hl : xs.length ≤ 9223372036854775806) (h : idxS step xs s 0 = some r) {H : Heap} (hs : st s H) :
    FnR Try.prog 55 [.d (.sl (Its xs)), .fn f [] caps] H fun v H' => v = .d (.b (decide (0 ≤ r.1))) ∧ st r.2 H' := by
  have hfn : noOwn (.fn f [] caps) = true := by simp [noOwn, noOwnL, hnc]
  refine FnR.of (rs := [.tmp 4]) 9 Try.func55 rfl rfl rfl (by simp) ?_
  refine .seq ?_
  refine .region ?_
  refine asd ?_
  refine rn ?_
  refine .seq ?_
  refine .region ?_
  refine vk (vmvd) ?_
  refine vk (vmvA (av := .fn f [] caps) (hn := hfn)) ?_
  refine clR (avs := [.d (.sl (Its xs)), .fn f [] caps]) (IndexFuncI_R hcall hnc hstep hl h hs) Try.call94 (fun v H' hp => ?_) (ha := by simp [argsA, lk, get, hfn, isRef, noOwn])
  obtain ⟨rfl, hs'⟩ := hp
  refine vk (vbi) ?_
  refine asd ?_
  refine rn ?_
  refine .ret ?_
  exact ⟨_, ⟨rfl, rfl⟩, rfl, hs'⟩
end Go.FL
/-
  What measures arrays: (*extent).array, (*extent).item, measured, rightItem.
-/
namespace Go.FL
open Go Go.Proofs

abbrev M3 := Bool × Int × Int
abbrev EB (c d : Int) : HO := .box [.d (.i .i64 c), .d (.i .i64 d)]
/-- What an object, id, becomes; the others stay. -/
def Upd (H : Heap) (id : Nat) (o : HO) (H' : Heap) : Prop := H'[id]? = some o ∧ H.length ≤ H'.length ∧ ∀ j, j ≠ id → j < H.length → H'[j]? = H[j]?
theorem Upd.same {H : Heap} {id : Nat} {o : HO} (h : H[id]? = some o) : Upd H id o H := ⟨h, Nat.le_refl _, fun _ _ _ => rfl⟩
theorem Upd.trans {H H' H'' : Heap} {id : Nat} {o o' : HO} (h : Upd H id o H') (k : Upd H' id o' H'') : Upd H id o' H'' :=
  ⟨k.1, Nat.le_trans h.2.1 k.2.1, fun j h1 h2 => (k.2.2 j h1 (Nat.lt_of_lt_of_le h2 h.2.1)).trans (h.2.2 j h1 h2)⟩
def PE (id : Nat) (r : M3) (H : Heap) : AV → Heap → Prop := fun v H' => v = .d (.b r.1) ∧ Upd H id (EB r.2.1 r.2.2) H'
theorem PE.refl {id : Nat} {b : Bool} {c d : Int} {H : Heap} (h : H[id]? = some (EB c d)) : PE id (b, c, d) H (.d (.b b)) H := ⟨rfl, .same h⟩
/-- What the measuring of an array is known to do. -/
def OA (rc : Arr → Int → Int → Int → Option M3) : Prop := ∀ (a : Arr) (deep c d : Int) (r : M3), rc a deep c d = some r → ∀ (H : Heap) (id : Nat), H[id]? = some (EB c d) →
  FnR Try.prog 89 [.bp id 0, .d (dvA a), .d (.i .i64 deep)] H (PE id r H)
def noNumB (a1 : Itm) : Bool := ((!a1.num.1) && ((decide (((List.length a1.num.2.1 : Nat) : Int) = 0)) && (decide (((List.length a1.num.2.2 : Nat) : Int) = 0))))
def mItB (rc : Arr → Int → Int → Int → Option M3) (a1 : Itm) (a2 c d : Int) : Option M3 := (if a1.kind = 1 then ((ratRight a1.num).bind fun x1 => (some ((x1 && ((decide (a1.char = 0)) && (decide (((List.length a1.box : Nat) : Int) = 0)))), c, d))) else (if a1.kind = 2 then ((array_isChar a1.char).bind fun x2 => (some ((x2 && (noNumB a1 && (decide (((List.length a1.box : Nat) : Int) = 0)))), c, d))) else (if a1.kind = 3 then (if ((List.length a1.box : Nat) : Int) = 1 then (if noNumB a1 = true then (if a1.char = 0 then ((rd? a1.box 0).bind fun x4 => ((array_isSimple x4).bind fun x5 => (if x5 = true then (some (false, c, d)) else ((rd? a1.box 0).bind fun x6 => ((rc x6 a2 c d).bind fun x7 => (some x7)))))) else (some (false, c, d))) else (some (false, c, d))) else (some (false, c, d))) else (some (false, c, d)))))
set_option maxHeartbeats 4000000 in
theorem extent_item_ok {rc : Arr → Int → Int → Int → Option M3} (orc : OA rc) {a1 : Itm} {a2 c d : Int} {r : M3} (h : mItB rc a1 a2 c d = some r) {H : Heap} {id : Nat} (hH : H[id]? = some (EB c d)) :
    FnR Try.prog 95 [.bp id 0, .d (dvI a1), .d (.i .i64 a2)] H (PE id r H) := by
  unfold mItB noNumB at h
  refine FnR.of (rs := [.tmp 6]) 89 Try.func95 rfl rfl rfl (by simp) ?_
  refine .seq ?_
  refine .region ?_
  refine vk (vbx) ?_
  refine asd ?_
  refine rn ?_
  refine .gh (Gh.keep [0, 2, 4, 6] rfl) ?_
  refine .seq ?_
  refine AW.mr (σ := Unit) (fun _ => True) (fun _ => [(0, .bp id 0), (2, .d (.i .i64 a2)), (4, .d (.ptr [.i .u8 a1.kind, .b a1.num.1, .sl (L a1.num.2.1), .sl (L a1.num.2.2), .i .i32 a1.char, .sl (Ars a1.box)])), (6, .d (.b false)), (7, .d (.b ((!a1.num.1) && ((decide (((List.length a1.num.2.1 : Nat) : Int) = 0)) && (decide (((List.length a1.num.2.2 : Nat) : Int) = 0))))))]) (fun _ => H) ?_ ?_
  · skip
    refine .region ?_
    refine vk (vfa gF_Itm_1) ?_
    refine vk (vfa gF_R_0) ?_
    refine vk (vldp ga_bool) ?_
    refine vk (vnt) ?_
    by_cases hc : a1.num.1 = true
    · have hb0 : (!a1.num.1) = false := (ntf hc)
      refine vk (VOK.lit (vmvd) hb0) ?_
      refine gf ?_
      refine gf ?_
      refine gf ?_
      refine gf ?_
      refine gf ?_
      refine vk (vpkd) ?_
      refine vk (vmvd) ?_
      refine gf ?_
      refine gf ?_
      refine gf ?_
      refine gf ?_
      refine gf ?_
      refine vk (vpkd) ?_
      refine asd ?_
      refine RL.gh (Gh.keep [0, 2, 4, 6, 7] rfl) ?_
      refine .nil ?_
      exact jr () trivial (by simp only [hb0]; rfl)
    have hb0 : (!a1.num.1) = true := (ntt (bf hc))
    refine vk (VOK.lit (vmvd) hb0) ?_
    refine vk (vfa gF_Itm_1) ?_
    refine vk (vfa gF_R_1) ?_
    refine vk (vldp ga_L) ?_
    refine vk (vlnE (L_length _) (L_sz _) gu_L) ?_
    refine vk (vbi) ?_
    refine vk (vpkd) ?_
    by_cases hc : ((List.length a1.num.2.1 : Nat) : Int) = 0
    · have hb1 : (decide (((List.length a1.num.2.1 : Nat) : Int) = 0)) = true := (decide_eq_true hc)
      refine vk (VOK.lit (vmvd) hb1) ?_
      refine vk (vfa gF_Itm_1) ?_
      refine vk (vfa gF_R_2) ?_
      refine vk (vldp ga_L) ?_
      refine vk (vlnE (L_length _) (L_sz _) gu_L) ?_
      refine vk (vbi) ?_
      refine vk (vpkd) ?_
      refine asd ?_
      refine RL.gh (Gh.keep [0, 2, 4, 6, 7] rfl) ?_
      refine .nil ?_
      exact jr () trivial (by simp only [hb0, hb1]; rfl)
    have hb1 : (decide (((List.length a1.num.2.1 : Nat) : Int) = 0)) = false := (decide_eq_false hc)
    refine vk (VOK.lit (vmvd) hb1) ?_
    refine gf ?_
    refine gf ?_
    refine gf ?_
    refine gf ?_
    refine gf ?_
    refine vk (vpkd) ?_
    refine asd ?_
    refine RL.gh (Gh.keep [0, 2, 4, 6, 7] rfl) ?_
    refine .nil ?_
    exact jr () trivial (by simp only [hb0, hb1]; rfl)
  rintro _ _
  refine .seq ?_
  refine .seq ?_
  refine .region ?_
  refine vk (vfa gF_Itm_0) ?_
  refine vk (vldp ga_ItemKind) ?_
  refine rn ?_
  refine .gh (Gh.keep [0, 2, 4, 6, 7, 27] rfl) ?_
  refine .block ?_
  refine .seq ?_
  refine .region ?_
  refine vk (vbi) ?_
  refine asd ?_
  refine rn ?_
  refine .gh (Gh.keep [0, 2, 4, 6, 7, 27, 28] rfl) ?_
  by_cases hc : a1.kind = 1
  · replace h := ite_t hc h
    refine cnt (decide_eq_true hc) ?_
    refine .seq ?_
    obtain ⟨x1, hx1, h⟩ := bnd h
    refine AW.mr (σ := Unit) (fun _ => True) (fun _ => [(6, .d (.b (x1 && ((decide (a1.char = 0)) && (decide (((List.length a1.box : Nat) : Int) = 0))))))]) (fun _ => H) ?_ ?_
    · skip
      refine .region ?_
      refine vk (vfa gF_Itm_1) ?_
      refine vk (vlda gA_R gS_R) ?_
      refine vk (vcl0 (ratRight_ok hx1) Try.call77) ?_
      by_cases hc : x1 = true
      · have hb0 : x1 = true := hc
        refine vk (VOK.lit (vmvd) hb0) ?_
        refine vk (vfa gF_Itm_2) ?_
        refine vk (vldp ga_int32) ?_
        refine vk (vbi) ?_
        refine vk (vpkd) ?_
        by_cases hc : a1.char = 0
        · have hb1 : (decide (a1.char = 0)) = true := (decide_eq_true hc)
          refine vk (VOK.lit (vmvd) hb1) ?_
          refine vk (vfa gF_Itm_3) ?_
          refine vk (vldp ga_Ars) ?_
          refine vk (vlnE (Ars_length _) (Ars_sz _) gu_Ars) ?_
          refine vk (vbi) ?_
          refine vk (vpkd) ?_
          refine asd ?_
          refine RL.gh (Gh.keep [6] rfl) ?_
          refine .nil ?_
          exact jr () trivial (by simp only [hb0, hb1]; rfl)
        have hb1 : (decide (a1.char = 0)) = false := (decide_eq_false hc)
        refine vk (VOK.lit (vmvd) hb1) ?_
        refine gf ?_
        refine gf ?_
        refine gf ?_
        refine gf ?_
        refine vk (vpkd) ?_
        refine asd ?_
        refine RL.gh (Gh.keep [6] rfl) ?_
        refine .nil ?_
        exact jr () trivial (by simp only [hb0, hb1]; rfl)
      have hb0 : x1 = false := (bf hc)
      refine vk (VOK.lit (vmvd) hb0) ?_
      refine gf ?_
      refine gf ?_
      refine gf ?_
      refine vk (vpkd) ?_
      refine vk (vmvd) ?_
      refine gf ?_
      refine gf ?_
      refine gf ?_
      refine gf ?_
      refine vk (vpkd) ?_
      refine asd ?_
      refine RL.gh (Gh.keep [6] rfl) ?_
      refine .nil ?_
      exact jr () trivial (by simp only [hb0]; rfl)
    rintro _ _
    refine .ret ?_
    cases h
    exact ⟨_, ⟨rfl, rfl⟩, .refl hH⟩
  replace h := ite_f hc h
  refine cnf (decide_eq_false hc) ?_
  refine .seq ?_
  refine .region ?_
  refine vk (vbi) ?_
  refine asd ?_
  refine rn ?_
  refine .gh (Gh.keep [0, 2, 4, 6, 7, 27, 44] rfl) ?_
  by_cases hc : a1.kind = 2
  · replace h := ite_t hc h
    refine cnt (decide_eq_true hc) ?_
    refine .seq ?_
    obtain ⟨x2, hx2, h⟩ := bnd h
    refine AW.mr (σ := Unit) (fun _ => True) (fun _ => [(6, .d (.b (x2 && (((!a1.num.1) && ((decide (((List.length a1.num.2.1 : Nat) : Int) = 0)) && (decide (((List.length a1.num.2.2 : Nat) : Int) = 0)))) && (decide (((List.length a1.box : Nat) : Int) = 0))))))]) (fun _ => H) ?_ ?_
    · skip
      refine .region ?_
      refine vk (vfa gF_Itm_2) ?_
      refine vk (vldp ga_int32) ?_
      refine vk (vcl0 (array_isChar_ok hx2) Try.call78) ?_
      by_cases hc : x2 = true
      · have hb0 : x2 = true := hc
        refine vk (VOK.lit (vmvd) hb0) ?_
        refine vk (vmvd) ?_
        refine vk (vpkd) ?_
        by_cases hc : ((!a1.num.1) && ((decide (((List.length a1.num.2.1 : Nat) : Int) = 0)) && (decide (((List.length a1.num.2.2 : Nat) : Int) = 0)))) = true
        · have hb1 : ((!a1.num.1) && ((decide (((List.length a1.num.2.1 : Nat) : Int) = 0)) && (decide (((List.length a1.num.2.2 : Nat) : Int) = 0)))) = true := hc
          refine vk (VOK.lit (vmvd) hb1) ?_
          refine vk (vfa gF_Itm_3) ?_
          refine vk (vldp ga_Ars) ?_
          refine vk (vlnE (Ars_length _) (Ars_sz _) gu_Ars) ?_
          refine vk (vbi) ?_
          refine vk (vpkd) ?_
          refine asd ?_
          refine RL.gh (Gh.keep [6] rfl) ?_
          refine .nil ?_
          exact jr () trivial (by simp only [hb0, hb1]; rfl)
        have hb1 : ((!a1.num.1) && ((decide (((List.length a1.num.2.1 : Nat) : Int) = 0)) && (decide (((List.length a1.num.2.2 : Nat) : Int) = 0)))) = false := (bf hc)
        refine vk (VOK.lit (vmvd) hb1) ?_
        refine gf ?_
        refine gf ?_
        refine gf ?_
        refine gf ?_
        refine vk (vpkd) ?_
        refine asd ?_
        refine RL.gh (Gh.keep [6] rfl) ?_
        refine .nil ?_
        exact jr () trivial (by simp only [hb0, hb1]; rfl)
      have hb0 : x2 = false := (bf hc)
      refine vk (VOK.lit (vmvd) hb0) ?_
      refine gf ?_
      refine vk (vpkd) ?_
      refine vk (vmvd) ?_
      refine gf ?_
      refine gf ?_
      refine gf ?_
      refine gf ?_
      refine vk (vpkd) ?_
      refine asd ?_
      refine RL.gh (Gh.keep [6] rfl) ?_
      refine .nil ?_
      exact jr () trivial (by simp only [hb0]; rfl)
    rintro _ _
    refine .ret ?_
    cases h
    exact ⟨_, ⟨rfl, rfl⟩, .refl hH⟩
  replace h := ite_f hc h
  refine cnf (decide_eq_false hc) ?_
  refine .seq ?_
  refine .region ?_
  refine vk (vbi) ?_
  refine asd ?_
  refine rn ?_
  refine .gh (Gh.keep [0, 2, 4, 6, 7, 58] rfl) ?_
  by_cases hc : a1.kind = 3
  · replace h := ite_t hc h
    refine cnt (decide_eq_true hc) ?_
    refine .seq ?_
    · skip
      refine .region ?_
      refine vk (vfa gF_Itm_3) ?_
      refine vk (vldp ga_Ars) ?_
      refine vk (vlnE (Ars_length _) (Ars_sz _) gu_Ars) ?_
      refine vk (vbi) ?_
      by_cases hc : ((List.length a1.box : Nat) : Int) = 1
      · replace h := ite_t hc h
        have hb0 : (decide (((List.length a1.box : Nat) : Int) = 1)) = true := (decide_eq_true hc)
        refine vk (VOK.lit (vmvd) hb0) ?_
        refine vk (vmvd) ?_
        refine vk (vpkd) ?_
        by_cases hc : ((!a1.num.1) && ((decide (((List.length a1.num.2.1 : Nat) : Int) = 0)) && (decide (((List.length a1.num.2.2 : Nat) : Int) = 0)))) = true
        · replace h := ite_t hc h
          have hb1 : ((!a1.num.1) && ((decide (((List.length a1.num.2.1 : Nat) : Int) = 0)) && (decide (((List.length a1.num.2.2 : Nat) : Int) = 0)))) = true := hc
          refine vk (VOK.lit (vmvd) hb1) ?_
          refine vk (vfa gF_Itm_2) ?_
          refine vk (vldp ga_int32) ?_
          refine vk (vbi) ?_
          refine vk (vpkd) ?_
          by_cases hc : a1.char = 0
          · replace h := ite_t hc h
            have hb2 : (decide (a1.char = 0)) = true := (decide_eq_true hc)
            refine vk (VOK.lit (vmvd) hb2) ?_
            refine vk (vfa gF_Itm_3) ?_
            refine vk (vldp ga_Ars) ?_
            obtain ⟨x4, hx4, h⟩ := bnd h
            obtain ⟨nx4, hnx4, hxx4⟩ := rd_some hx4
            refine vk (vix nx4 hnx4 (Ars_at hxx4) rfl gs_Ars) ?_
            refine vk (vlda gA_Arr gS_Arr) ?_
            obtain ⟨x5, hx5, h⟩ := bnd h
            refine vk (vcl0 (array_isSimple_ok hx5) Try.call52) ?_
            refine vk (vnt) ?_
            refine vk (vpkd) ?_
            by_cases hc : x5 = true
            · replace h := ite_t hc h
              have hb3 : (!x5) = false := (ntf hc)
              refine vk (VOK.lit (vmvd) hb3) ?_
              refine gf ?_
              refine gf ?_
              refine gf ?_
              refine gf ?_
              refine gf ?_
              refine gf ?_
              refine gf ?_
              refine vk (vpkd) ?_
              refine asd ?_
              refine rn ?_
              refine .gh (Gh.keep [6] rfl) ?_
              refine .ret ?_
              cases h
              exact ⟨_, ⟨rfl, rfl⟩, .refl hH⟩
            replace h := ite_f hc h
            have hb3 : (!x5) = true := (ntt (bf hc))
            refine vk (VOK.lit (vmvd) hb3) ?_
            refine vk (vmvA (av := .bp id 0)) ?_
            refine vk (vfa gF_Itm_3) ?_
            refine vk (vldp ga_Ars) ?_
            obtain ⟨x6, hx6, h⟩ := bnd h
            obtain ⟨nx6, hnx6, hxx6⟩ := rd_some hx6
            refine vk (vix nx6 hnx6 (Ars_at hxx6) rfl gs_Ars) ?_
            refine vk (vlda gA_Arr gS_Arr) ?_
            refine vk (vmvd) ?_
            obtain ⟨x7, hx7, h⟩ := bnd h
            refine clR (avs := [.bp id 0, .d (dvA x6), .d (.i .i64 a2)]) (orc x6 a2 c d x7 hx7 H id hH) Try.call89 (fun v H' hp => ?_)
            obtain ⟨rfl, hp⟩ := hp
            refine vk (vpkd) ?_
            refine asd ?_
            refine rn ?_
            refine .gh (Gh.keep [6] rfl) ?_
            refine .ret ?_
            cases h
            exact ⟨_, ⟨rfl, rfl⟩, rfl, hp⟩
          replace h := ite_f hc h
          have hb2 : (decide (a1.char = 0)) = false := (decide_eq_false hc)
          refine vk (VOK.lit (vmvd) hb2) ?_
          refine gf ?_
          refine gf ?_
          refine gf ?_
          refine gf ?_
          refine gf ?_
          refine gf ?_
          refine vk (vpkd) ?_
          refine vk (vmvd) ?_
          refine gf ?_
          refine gf ?_
          refine gf ?_
          refine gf ?_
          refine gf ?_
          refine gf ?_
          refine gf ?_
          refine vk (vpkd) ?_
          refine asd ?_
          refine rn ?_
          refine .gh (Gh.keep [6] rfl) ?_
          refine .ret ?_
          cases h
          exact ⟨_, ⟨rfl, rfl⟩, .refl hH⟩
        replace h := ite_f hc h
        have hb1 : ((!a1.num.1) && ((decide (((List.length a1.num.2.1 : Nat) : Int) = 0)) && (decide (((List.length a1.num.2.2 : Nat) : Int) = 0)))) = false := (bf hc)
        refine vk (VOK.lit (vmvd) hb1) ?_
        refine gf ?_
        refine gf ?_
        refine gf ?_
        refine vk (vpkd) ?_
        refine vk (vmvd) ?_
        refine gf ?_
        refine gf ?_
        refine gf ?_
        refine gf ?_
        refine gf ?_
        refine gf ?_
        refine vk (vpkd) ?_
        refine vk (vmvd) ?_
        refine gf ?_
        refine gf ?_
        refine gf ?_
        refine gf ?_
        refine gf ?_
        refine gf ?_
        refine gf ?_
        refine vk (vpkd) ?_
        refine asd ?_
        refine rn ?_
        refine .gh (Gh.keep [6] rfl) ?_
        refine .ret ?_
        cases h
        exact ⟨_, ⟨rfl, rfl⟩, .refl hH⟩
      replace h := ite_f hc h
      have hb0 : (decide (((List.length a1.box : Nat) : Int) = 1)) = false := (decide_eq_false hc)
      refine vk (VOK.lit (vmvd) hb0) ?_
      refine gf ?_
      refine vk (vpkd) ?_
      refine vk (vmvd) ?_
      refine gf ?_
      refine gf ?_
      refine gf ?_
      refine vk (vpkd) ?_
      refine vk (vmvd) ?_
      refine gf ?_
      refine gf ?_
      refine gf ?_
      refine gf ?_
      refine gf ?_
      refine gf ?_
      refine vk (vpkd) ?_
      refine vk (vmvd) ?_
      refine gf ?_
      refine gf ?_
      refine gf ?_
      refine gf ?_
      refine gf ?_
      refine gf ?_
      refine gf ?_
      refine vk (vpkd) ?_
      refine asd ?_
      refine rn ?_
      refine .gh (Gh.keep [6] rfl) ?_
      refine .ret ?_
      cases h
      exact ⟨_, ⟨rfl, rfl⟩, .refl hH⟩
  replace h := ite_f hc h
  refine cnf (decide_eq_false hc) ?_
  refine .skip ?_
  show AW _ _ _ _ _ _
  refine .seq ?_
  refine .region ?_
  refine asd ?_
  refine rn ?_
  refine .gh (Gh.keep [6] rfl) ?_
  refine .ret ?_
  cases h
  exact ⟨_, ⟨rfl, rfl⟩, .refl hH⟩


/-- The items, one behind the other. -/
def mItsB (rc : Arr → Int → Int → Int → Option M3) (deep : Int) : List Itm → Int → Int → Option M3
  | [], c, d => some (true, c, d)
  | x :: xs, c, d => (mItB rc x deep c d).bind fun z => if z.1 = true then mItsB rc deep xs z.2.1 z.2.2 else some (false, z.2.1, z.2.2)
def stepM (rc : Arr → Int → Int → Int → Option M3) (deep : Int) (x : Itm) (s : Int × Int) : Option (Bool × (Int × Int)) := (mItB rc x deep s.1 s.2).map fun z => (!z.1, z.2)
theorem idx_mIts {rc : Arr → Int → Int → Int → Option M3} {deep : Int} : ∀ {xs : List Itm} {c d : Int} {z : M3} {i : Int}, 0 ≤ i → mItsB rc deep xs c d = some z → ∃ n, idxS (stepM rc deep) xs (c, d) i = some (n, z.2) ∧ (!decide (0 ≤ n)) = z.1
  | [], c, d, z, i, _, h => by cases h; exact ⟨-1, rfl, rfl⟩
  | x :: xs, c, d, z, i, hi, h => by
    rw [mItsB] at h
    obtain ⟨y, hy, h⟩ := bnd h
    have hs : stepM rc deep x (c, d) = some (!y.1, y.2) := by simp [stepM, hy]
    by_cases hc : y.1 = true
    · rw [if_pos hc] at h
      obtain ⟨n, h1, h2⟩ := idx_mIts (i := i + 1) (by omega) h
      refine ⟨n, ?_, h2⟩
      rw [idxS, hs, Option.bind_some, if_neg (by simp [hc])]; exact h1
    · rw [if_neg hc] at h
      cases h
      refine ⟨i, ?_, by simp [hi]⟩
      rw [idxS, hs, Option.bind_some, if_pos (by simp [hc])]
theorem extent_array1_ok {rc : Arr → Int → Int → Int → Option M3} (orc : OA rc) {x : Itm} {deep c d : Int} {z : M3} (h : mItB rc x deep c d = some z) {H : Heap} {id n3 n5 : Nat} (hH : H[id]? = some (EB c d)) (h3 : H[n3]? = some (.box [.bp id 0])) (h5 : H[n5]? = some (.box [.d (.i .i64 deep)])) :
    FnR Try.prog 123 [.d (dvI x), .bp n3 0, .bp n5 0] H fun v H' => v = .d (.b (!z.1)) ∧ Upd H id (EB z.2.1 z.2.2) H' := by
  refine FnR.of (rs := [.tmp 4]) 10 Try.func123 rfl rfl rfl (by simp) ?_
  refine .seq ?_
  refine .region ?_
  refine vk (vbx) ?_
  refine asd ?_
  refine rn ?_
  refine .seq ?_
  refine .region ?_
  refine vk (vldbA (cs := [.bp id 0]) (c := .bp id 0) h3 rfl (by kernel_rfl)) ?_
  refine vk (vlda gA_Itm gS_Itm) ?_
  refine vk (vldb (cs := [.d (.i .i64 deep)]) (c := .i .i64 deep) h5 rfl ga_int) ?_
  refine clR (avs := [.bp id 0, .d (dvI x), .d (.i .i64 deep)]) (extent_item_ok orc h hH) Try.call95 (fun v H' hp => ?_)
  obtain ⟨rfl, hp⟩ := hp
  refine vk (vnt) ?_
  refine asd ?_
  refine rn ?_
  refine .ret ?_
  exact ⟨_, ⟨rfl, rfl⟩, rfl, hp⟩
end Go.FL
/-
  (*extent).array, measured, rightItem.
-/
namespace Go.FL
open Go Go.Proofs

theorem Upd.set_new {H H' : Heap} {id n : Nat} {o x : HO} (k : Upd H id o H') (h1 : H.length ≤ n) (h2 : n ≠ id) : Upd H id o (H'.set n x) :=
  ⟨by rw [List.getElem?_set_ne h2]; exact k.1, by simpa using k.2.1, fun j h3 h4 => by rw [List.getElem?_set_ne (by omega)]; exact k.2.2 j h3 h4⟩
theorem Upd.set_id {H H' : Heap} {id : Nat} {o o' : HO} (k : Upd H id o H') : Upd H id o' (H'.set id o') :=
  ⟨List.getElem?_set_self (List.getElem?_eq_some_iff.1 k.1).1, by simpa using k.2.1, fun j h3 h4 => by rw [List.getElem?_set_ne (Ne.symm h3)]; exact k.2.2 j h3 h4⟩

def mArB (rc : Arr → Int → Int → Int → Option M3) (a : Arr) (deep c d : Int) : Option M3 :=
  (array_Size a.shape).bind fun x1 =>
   if x1.2 = 0 then
     if ((List.length a.items : Nat) : Int) = (if x1.1 < 1 then 1 else x1.1) then
        if 16384 < w64 (c + ((List.length a.items : Nat) : Int)) then some (false, w64 (c + ((List.length a.items : Nat) : Int)), d) else
        (array_isSimple a).bind fun sm =>
          if sm = true then (if deep ≤ 16 then mItsB rc deep a.items (w64 (c + ((List.length a.items : Nat) : Int))) d else some (false, w64 (c + ((List.length a.items : Nat) : Int)), d))
          else (if w64 (deep + 1) ≤ 16 then mItsB rc (w64 (deep + 1)) a.items (w64 (c + ((List.length a.items : Nat) : Int))) (if d < w64 (deep + 1) then w64 (deep + 1) else d) else some (false, w64 (c + ((List.length a.items : Nat) : Int)), (if d < w64 (deep + 1) then w64 (deep + 1) else d)))
     else some (false, c, d)
   else some (false, c, d)

set_option maxHeartbeats 4000000 in
set_option maxRecDepth 20000 in
theorem extent_array_ok {rc : Arr → Int → Int → Int → Option M3} (orc : OA rc) {a : Arr} {deep c d : Int} {r : M3} (hlen : a.items.length ≤ 9223372036854775806) (h : mArB rc a deep c d = some r) {H : Heap} {id : Nat} (hH : H[id]? = some (EB c d)) :
    FnR Try.prog 89 [.bp id 0, .d (dvA a), .d (.i .i64 deep)] H (PE id r H) := by
  unfold mArB at h
  have hid : id < H.length := (List.getElem?_eq_some_iff.1 hH).1
  refine FnR.of (rs := [.tmp 6]) 63 Try.func89 rfl rfl rfl (by simp) ?_
  refine .seq ?_
  refine .region ?_
  refine bxA (c := .bp id 0) ?_
  refine vk (vbx) ?_
  refine bxA (c := .d (.i .i64 deep)) ?_
  refine asd ?_
  have f0 : Upd H id (EB c d) (H ++ [.box [.bp id 0]] ++ [.box [.d (.i .i64 deep)]]) := by
    refine ⟨?_, by simp, fun j h1 h2 => ?_⟩
    · rw [List.append_assoc, List.getElem?_append_left hid]; exact hH
    · rw [List.append_assoc, List.getElem?_append_left h2]
  have f3 : (H ++ [HO.box [AV.bp id 0]] ++ [.box [.d (.i .i64 deep)]])[H.length]? = some (.box [.bp id 0]) := by simp
  have f5 : (H ++ [HO.box [AV.bp id 0]] ++ [.box [.d (.i .i64 deep)]])[(H ++ [HO.box [AV.bp id 0]]).length]? = some (.box [.d (.i .i64 deep)]) := by
    rw [List.getElem?_append_right (Nat.le_refl _)]; simp
  have g3 : H.length ≠ id := by omega
  have g5 : (H ++ [HO.box [AV.bp id 0]]).length ≠ id := by simp; omega
  have g5' : H.length ≤ (H ++ [HO.box [AV.bp id 0]]).length := by simp
  have g35 : H.length ≠ (H ++ [HO.box [AV.bp id 0]]).length := by simp
  have g3' : H.length ≤ H.length := Nat.le_refl _
  generalize H ++ [HO.box [AV.bp id 0]] ++ [.box [.d (.i .i64 deep)]] = H2 at f0 f3 f5 ⊢
  generalize (H ++ [HO.box [AV.bp id 0]]).length = n5 at f5 g5 g5' g35 ⊢
  obtain ⟨n3, hn3⟩ : ∃ n3, n3 = H.length := ⟨_, rfl⟩
  rw [← hn3] at f3 g3 g35
  rw [← hn3]
  have f1 := f0.1
  refine rn ?_
  refine .gh (Gh.keep [3, 4, 5] rfl) ?_
  refine .seq ?_
  refine .region ?_
  refine vk (vfa gF_Arr_0) ?_
  refine vk (vldp ga_Is) ?_
  obtain ⟨x1, hx1, h⟩ := bnd h
  refine vk (VOK.tupd (vs := [.i .i64 x1.1, .i .i64 x1.2]) (vcl0 (array_Size_ok hx1) Try.call54)) ?_
  refine vk (vmvd) ?_
  refine vk (vex) ?_
  refine vk (vex) ?_
  refine asd ?_
  refine asd ?_
  refine rn ?_
  refine .gh (Gh.keep [3, 4, 5, 7, 8] rfl) ?_
  refine .seq ?_
  refine .seq ?_
  refine .region ?_
  refine vk (vmvd) ?_
  refine vk (vbi) ?_
  by_cases hc : x1.2 = 0
  rotate_left
  · rw [if_neg hc] at h
    cases h
    refine vk (VOK.lit (vmvd) (show (!decide (x1.2 = 0)) = true by simp [hc])) ?_
    refine gf ?_
    refine gf ?_
    refine gf ?_
    refine gf ?_
    refine gf ?_
    refine gf ?_
    refine vk (vpkd) ?_
    refine rn ?_
    refine cnt rfl ?_
    refine .seq ?_
    refine .region ?_
    refine asd ?_
    refine rn ?_
    refine .ret ?_
    exact ⟨_, ⟨rfl, rfl⟩, rfl, f0⟩
  rw [if_pos hc] at h
  refine vk (VOK.lit (vmvd) (show (!decide (x1.2 = 0)) = false by simp [hc])) ?_
  refine vk (vfa gF_Arr_1) ?_
  refine vk (vldp ga_Its) ?_
  refine vk (vlnE (Its_length _) (Its_sz _) gu_Its) ?_
  refine vk (vmvd) ?_
  refine vk (vmx) ?_
  refine vk (vbi) ?_
  refine vk (vpkd) ?_
  refine rn ?_
  by_cases hc : ((List.length a.items : Nat) : Int) = (if x1.1 < 1 then 1 else x1.1)
  rotate_left
  · rw [if_neg hc] at h
    cases h
    refine cnt (ntt (decide_eq_false hc)) ?_
    refine .seq ?_
    refine .region ?_
    refine asd ?_
    refine rn ?_
    refine .ret ?_
    exact ⟨_, ⟨rfl, rfl⟩, rfl, f0⟩
  rw [if_pos hc] at h
  refine cnf (ntf (decide_eq_true hc)) ?_
  refine .skip ?_
  show AW _ _ _ _ _ _
  refine .gh (Gh.keep [3, 4, 5] rfl) ?_
  refine .seq ?_
  refine .drawn 10 mixed (by kernel_rfl) ?_
  refine dv (vldbA (cs := [.bp id 0]) (c := .bp id 0) f3 rfl (by kernel_rfl)) ?_
  refine dv (vncb) ?_
  refine dv (vfab gF_Ex_0) ?_
  refine dv (vldb (cs := [.d (.i .i64 c), .d (.i .i64 d)]) (c := .i .i64 c) f1 rfl ga_int) ?_
  refine dv (vfa gF_Arr_1) ?_
  refine dv (vldp ga_Its) ?_
  refine dv (vlnE (Its_length _) (Its_sz _) gu_Its) ?_
  refine dv (vbi) ?_
  refine dv (vncb) ?_
  refine dv (vfab gF_Ex_0) ?_
  refine dz ?_
  refine stb (cs := [.d (.i .i64 c), .d (.i .i64 d)]) (c := .d (.i .i64 c)) f1 rfl ?_ gz_int
  have q0 := f0.set_id (o' := EB (w64 (c + ((List.length a.items : Nat) : Int))) d)
  have q3 : (H2.set id (EB (w64 (c + ((List.length a.items : Nat) : Int))) d))[n3]? = some (.box [.bp id 0]) := by rw [List.getElem?_set_ne (Ne.symm g3)]; exact f3
  have q5 : (H2.set id (EB (w64 (c + ((List.length a.items : Nat) : Int))) d))[n5]? = some (.box [.d (.i .i64 deep)]) := by rw [List.getElem?_set_ne (Ne.symm g5)]; exact f5
  refine rn ?_
  change AW _ _ _ _ _ (H2.set id (EB (w64 (c + ((List.length a.items : Nat) : Int))) d))
  generalize H2.set id (EB (w64 (c + ((List.length a.items : Nat) : Int))) d) = H3 at q0 q3 q5 ⊢
  generalize w64 (c + ((List.length a.items : Nat) : Int)) = c1 at h q0 ⊢
  have q1 := q0.1
  refine .gh (Gh.keep [3, 4, 5] rfl) ?_
  refine .seq ?_
  refine .seq ?_
  refine .region ?_
  refine vk (vldbA (cs := [.bp id 0]) (c := .bp id 0) q3 rfl (by kernel_rfl)) ?_
  refine vk (vncb) ?_
  refine vk (vfab gF_Ex_0) ?_
  refine vk (vldb (cs := [.d (.i .i64 c1), .d (.i .i64 d)]) (c := .i .i64 c1) q1 rfl ga_int) ?_
  refine vk (vbi) ?_
  refine rn ?_
  by_cases hc : 16384 < c1
  · rw [if_pos hc] at h
    cases h
    refine cnt (decide_eq_true hc) ?_
    refine .seq ?_
    refine .region ?_
    refine asd ?_
    refine rn ?_
    refine .ret ?_
    exact ⟨_, ⟨rfl, rfl⟩, rfl, q0⟩
  rw [if_neg hc] at h
  refine cnf (decide_eq_false hc) ?_
  refine .skip ?_
  show AW _ _ _ _ _ _
  refine .gh (Gh.keep [3, 4, 5] rfl) ?_
  refine .seq ?_
  obtain ⟨sm, hsm, h⟩ := bnd h
  refine .seq ?_
  refine .region ?_
  refine vk (vlda gA_Arr gS_Arr) ?_
  refine vk (vcl0 (array_isSimple_ok hsm) Try.call52) ?_
  refine vk (vnt) ?_
  refine rn ?_
  refine AW.mr (σ := Heap × Int × Int) (fun s => Upd H id (EB c1 s.2.2) s.1 ∧ s.1[n3]? = some (.box [.bp id 0]) ∧ s.1[n5]? = some (.box [.d (.i .i64 s.2.1)]) ∧ (if s.2.1 ≤ 16 then mItsB rc s.2.1 a.items c1 s.2.2 else some (false, c1, s.2.2)) = some r)
    (fun _ => [(3, .bp n3 0), (4, .d (.ptr [.sl (Is a.shape), .sl (Its a.items)])), (5, .bp n5 0)]) (fun s => s.1) ?_ ?_
  · by_cases hs : sm = true
    · rw [if_pos hs] at h
      refine cnf (ntf hs) ?_
      refine .gh (Gh.keep [3, 4, 5] rfl) ?_
      refine .skip ?_
      exact jr (H3, deep, d) ⟨q0, q3, q5, h⟩
    rw [if_neg hs] at h
    refine cnt (ntt (bf hs)) ?_
    refine .seq ?_
    refine .region ?_
    refine vk (vldb (cs := [.d (.i .i64 deep)]) (c := .i .i64 deep) q5 rfl ga_int) ?_
    refine vk (vbi) ?_
    refine stb (cs := [.d (.i .i64 deep)]) (c := .d (.i .i64 deep)) q5 rfl ?_ gz_int
    have p0 := q0.set_new (n := n5) (x := .box [.d (.i .i64 (w64 (deep + 1)))]) g5' g5
    have p3 : (H3.set n5 (.box [.d (.i .i64 (w64 (deep + 1)))]))[n3]? = some (.box [.bp id 0]) := by rw [List.getElem?_set_ne (Ne.symm g35)]; exact q3
    have p5 : (H3.set n5 (.box [.d (.i .i64 (w64 (deep + 1)))]))[n5]? = some (.box [.d (.i .i64 (w64 (deep + 1)))]) := List.getElem?_set_self (List.getElem?_eq_some_iff.1 q5).1
    refine rn ?_
    change AW _ _ _ _ _ (H3.set n5 (.box [.d (.i .i64 (w64 (deep + 1)))]))
    generalize H3.set n5 (.box [.d (.i .i64 (w64 (deep + 1)))]) = H4 at p0 p3 p5 ⊢
    generalize w64 (deep + 1) = dp at h p5 ⊢
    have p1 := p0.1
    refine .gh (Gh.keep [3, 4, 5] rfl) ?_
    refine .drawn 9 mixed (by kernel_rfl) ?_
    refine dv (vldbA (cs := [.bp id 0]) (c := .bp id 0) p3 rfl (by kernel_rfl)) ?_
    refine dv (vldbA (cs := [.bp id 0]) (c := .bp id 0) p3 rfl (by kernel_rfl)) ?_
    refine dv (vncb) ?_
    refine dv (vfab gF_Ex_1) ?_
    refine dv (vldb (cs := [.d (.i .i64 c1), .d (.i .i64 d)]) (c := .i .i64 d) p1 rfl ga_int) ?_
    refine dv (vldb (cs := [.d (.i .i64 dp)]) (c := .i .i64 dp) p5 rfl ga_int) ?_
    refine dv (vmx) ?_
    refine dv (vncb) ?_
    refine dv (vfab gF_Ex_1) ?_
    refine dz ?_
    refine stb (cs := [.d (.i .i64 c1), .d (.i .i64 d)]) (c := .d (.i .i64 d)) p1 rfl ?_ gz_int
    have w0 := p0.set_id (o' := EB c1 (if d < dp then dp else d))
    have w3 : (H4.set id (EB c1 (if d < dp then dp else d)))[n3]? = some (.box [.bp id 0]) := by rw [List.getElem?_set_ne (Ne.symm g3)]; exact p3
    have w5 : (H4.set id (EB c1 (if d < dp then dp else d)))[n5]? = some (.box [.d (.i .i64 dp)]) := by rw [List.getElem?_set_ne (Ne.symm g5)]; exact p5
    refine RL.gh (Gh.keep [3, 4, 5] rfl) ?_
    refine .nil ?_
    exact jr (H4.set id (EB c1 (if d < dp then dp else d)), dp, (if d < dp then dp else d)) ⟨w0, w3, w5, h⟩
  rintro ⟨H5, dp, d1⟩ ⟨u0, u3, u5, h⟩
  dsimp only at u0 u3 u5 h ⊢
  show AW _ _ _ _ _ _
  refine .seq ?_
  refine .region ?_
  refine vk (vldb (cs := [.d (.i .i64 dp)]) (c := .i .i64 dp) u5 rfl ga_int) ?_
  refine vk (vbi) ?_
  by_cases hc : dp ≤ 16
  rotate_left
  · rw [if_neg hc] at h
    cases h
    refine vk (VOK.lit (vmvd) (decide_eq_false hc)) ?_
    refine gf ?_
    refine gf ?_
    refine gf ?_
    refine gf ?_
    refine gf ?_
    refine vk (vpkd) ?_
    refine asd ?_
    refine rn ?_
    refine .ret ?_
    exact ⟨_, ⟨rfl, rfl⟩, rfl, u0⟩
  rw [if_pos hc] at h
  refine vk (VOK.lit (vmvd) (decide_eq_true hc)) ?_
  refine vk (vfa gF_Arr_1) ?_
  refine vk (vldp ga_Its) ?_
  refine mkfA (avs := [.bp n3 0, .bp n5 0]) ?_
  obtain ⟨n, h1, h2⟩ := idx_mIts (Int.le_refl 0) h
  have step := ContainsFuncI_R (S := Int × Int) (step := stepM rc dp) (st := fun s H' => Upd H id (EB s.1 s.2) H' ∧ H'[n3]? = some (.box [.bp id 0]) ∧ H'[n5]? = some (.box [.d (.i .i64 dp)])) (caps := [.bp n3 0, .bp n5 0]) Try.call123 rfl
    (fun x s y H' hs hy => by
      obtain ⟨hs0, hs3, hs5⟩ := hs
      simp only [stepM, Option.map_eq_some_iff] at hy
      obtain ⟨z, hz, rfl⟩ := hy
      refine (extent_array1_ok orc hz hs0.1 hs3 hs5).mono fun v H'' hp => ⟨hp.1, hs0.trans hp.2, ?_, ?_⟩
      · rw [hp.2.2.2 n3 g3 (List.getElem?_eq_some_iff.1 hs3).1]; exact hs3
      · rw [hp.2.2.2 n5 g5 (List.getElem?_eq_some_iff.1 hs5).1]; exact hs5)
    hlen h1 (H := H5) ⟨u0, u3, u5⟩
  refine clR (avs := [.d (.sl (Its a.items)), .fn 123 [] [.bp n3 0, .bp n5 0]]) step Try.call55 (fun v H' hp => ?_)
  obtain ⟨rfl, hp⟩ := hp
  refine vk (vnt) ?_
  rw [h2]
  refine vk (vpkd) ?_
  refine asd ?_
  refine rn ?_
  refine .ret ?_
  exact ⟨_, ⟨rfl, rfl⟩, rfl, hp.1⟩
end Go.FL
/-
  measured, rightItem: what they tell.
-/
namespace Go.FL
open Go Go.Proofs

def mAr_r : Nat → Arr → Int → Int → Int → Option M3
  | 0, _, _, _, _ => none
  | k + 1, a, deep, c, d => if a.items.length ≤ 9223372036854775806 then mArB (mAr_r k) a deep c d else none
theorem mAr_r_ok : ∀ k, OA (mAr_r k)
  | 0 => fun _ _ _ _ _ h => by cases h
  | k + 1 => fun a deep c d r h H id hH => by
    rw [mAr_r] at h
    obtain ⟨hl, h⟩ := ite_n h
    exact extent_array_ok (mAr_r_ok k) hl h hH
def mAr (a : Arr) (deep c d : Int) : Option M3 := mAr_r (a.size + 1) a deep c d
def mIt (x : Itm) (deep c d : Int) : Option M3 := mItB mAr x deep c d
theorem mAr_ok : OA mAr := fun a deep c d r h => mAr_r_ok _ a deep c d r h

def arMeasured (a : Arr) : Option ((Int × Int) × Bool) := (mAr a 0 0 0).map fun z => if z.1 = true then (z.2, true) else ((0, 0), false)
theorem arMeasured_ok {a : Arr} {r : (Int × Int) × Bool} (h : arMeasured a = some r) : Fn Try.prog 51 [dvA a] (.tup [.d (.ag [.i .i64 r.1.1, .i .i64 r.1.2]), .d (.b r.2)]) := by
  simp only [arMeasured, Option.map_eq_some_iff] at h
  obtain ⟨z, hz, rfl⟩ := h
  refine Fn.ofC (rs := [.cell 2 82, .tmp 3]) (nt := 10) Try.func51 rfl rfl rfl (by simp) rfl ?_
  refine .seq ?_
  refine .region ?_
  refine vk (vbx) ?_
  refine vk (van (zero_of gI_Ex) gZ_Ex) ?_
  refine asd ?_
  refine rn ?_
  refine .seq ?_
  refine .region ?_
  refine al ?_ (zero_of gI_Ex) (fun w I μ => gZA_Ex w I μ)
  refine rn ?_
  refine .seq ?_
  refine .seq ?_
  refine .region ?_
  refine vk (vlda gA_Arr gS_Arr) ?_
  refine clR (avs := [.bp 0 0, .d (dvA a), .d (.i .i64 0)]) (mAr_ok a 0 0 0 z hz _ 0 rfl) Try.call89 (fun v H' hp => ?_)
  obtain ⟨rfl, hp⟩ := hp
  refine vk (vnt) ?_
  refine rn ?_
  by_cases hc : z.1 = true
  · rw [if_pos hc]
    refine cnf (ntf hc) ?_
    refine .skip ?_
    show AW _ _ _ _ _ _
    refine .seq ?_
    refine .region ?_
    refine vk (vldba (cs := [.d (.i .i64 z.2.1), .d (.i .i64 z.2.2)]) (ds := [.i .i64 z.2.1, .i .i64 z.2.2]) hp.1 gA_Ex gS_Ex) ?_
    refine stn ?_ gS_Ex (by decide)
    refine asd ?_
    refine rn ?_
    refine .ret ?_
    exact ⟨_, _, ⟨.inr rfl, gA_Ex, gS_Ex, (by decide : (0 : Nat) < 2)⟩, rfl, rfl⟩
  · rw [if_neg hc]
    refine cnt (ntt (bf hc)) ?_
    refine .seq ?_
    refine .region ?_
    refine vk (vbd gP_Ex gI_Ex gZ_Ex) ?_
    refine stn ?_ gS_Ex (by decide)
    refine asd ?_
    refine rn ?_
    refine .ret ?_
    exact ⟨_, _, ⟨.inr rfl, gA_Ex, gS_Ex, (by decide : (0 : Nat) < 2)⟩, rfl, rfl⟩
def arRightItem (x : Itm) : Option Bool := (mIt x 0 0 0).map fun z => z.1
theorem arRightItem_ok {x : Itm} {r : Bool} (h : arRightItem x = some r) : Fn Try.prog 57 [dvI x] (.d (.b r)) := by
  simp only [arRightItem, Option.map_eq_some_iff] at h
  obtain ⟨z, hz, rfl⟩ := h
  refine Fn.of (rs := [.tmp 2]) (nt := 6) Try.func57 rfl rfl rfl (by simp) rfl ?_
  refine .seq ?_
  refine .region ?_
  refine vk (vbx) ?_
  refine asd ?_
  refine rn ?_
  refine .seq ?_
  refine .region ?_
  refine al ?_ (zero_of gI_Ex) (fun w I μ => gZA_Ex w I μ)
  refine vk (vlda gA_Itm gS_Itm) ?_
  refine clR (avs := [.bp 0 0, .d (dvI x), .d (.i .i64 0)]) (extent_item_ok mAr_ok hz (id := 0) rfl) Try.call95 (fun v H' hp => ?_)
  obtain ⟨rfl, hp⟩ := hp
  refine asd ?_
  refine rn ?_
  refine .ret ?_
  exact ⟨rfl, rfl⟩
end Go.FL
/-
  rat.ToInt, by hand: a loop over an iterator.
-/
namespace Go.FL
open Go Go.Proofs

/-- The whole number that fits, and whether it does. -/
def intV (s : Bool) (n : Nat) : Int × Bool := if s = true then (if n ≤ 9223372036854775808 then (-(n : Int), true) else (0, false)) else if n < 9223372036854775808 then ((n : Int), true) else (0, false)
def ratToInt (a : RT) : Option (Int × Bool) := (rat_IsInt a).bind fun b => if b = true then (if (okL 1048576 a.2.1 && decide (digs (val a.2.1) = a.2.1)) = true then some (if bitsN (val a.2.1) ≤ 64 then intV a.1 (val a.2.1) else (0, false)) else none) else some (0, false)
theorem zu64 (w : World) : (zeroValue 120).run Try.prog w = .ok (.int .u64 0) w := by
  simp
theorem zu1 : szOf Try.prog 120 = 1 := by kernel_rfl
theorem au1 : aggT Try.prog 120 = some false := by kernel_rfl
theorem val_two {xs : List Nat} (h : Ok xs) (hl : xs.length ≤ 2) : ∀ j, val (xs.drop (j + 1)) < 4294967296 := by
  intro j
  match xs, hl with
  | [], _ => simp [val]
  | [x], _ => cases j <;> simp [val]
  | [x, y], _ =>
    have hy : y < 4294967296 := h y (by simp)
    cases j with
    | zero => simp [val]; omega
    | succ j => cases j <;> simp [val]
theorem neg_wrap {n : Nat} (h : n ≤ 9223372036854775808) : IntKind.i64.wrap (IntKind.u64.wrap (0 - (n : Int))) = -(n : Int) := by
  simp only [IntKind.wrap, IntKind.bits, IntKind.signed]; simp; omega
theorem ratToInt_ok {a : RT} {r : Int × Bool} (h : ratToInt a = some r) : Fn Try.prog 68 [.ag [.b a.1, .sl (L a.2.1), .sl (L a.2.2)]] (.tup [.d (.i .i64 r.1), .d (.b r.2)]) := by
  unfold ratToInt at h
  obtain ⟨x1, hx1, h⟩ := bnd h
  refine Fn.ofM (rs := [.tmp 2, .tmp 3]) (nt := 46) Try.func68 rfl rfl rfl (by simp) rfl ?_
  refine .seqA ?_
  refine .region ?_
  refine vk (vbx) ?_
  refine asd ?_
  refine asd ?_
  refine rn ?_
  show AWM _ _ _ _ _ _
  refine .seqA ?_
  refine .seq ?_
  refine .region ?_
  refine vk (vlda gA_R gS_R) ?_
  refine vk (vcl0 (rat_IsInt_ok hx1) Try.call100) ?_
  refine vk (vnt) ?_
  cases x1 with
  | false =>
    replace h := ite_f (by decide) h
    refine mvd ?_
    refine gf ?_
    refine gf ?_
    refine gf ?_
    refine gf ?_
    refine vk (vpkd) ?_
    refine rn ?_
    refine cnt rfl ?_
    refine .seq ?_
    refine .region ?_
    refine asd ?_
    refine asd ?_
    refine rn ?_
    refine .ret ?_
    cases h
    exact ⟨by decide, rfl, rfl, rfl⟩
  | true =>
    replace h := ite_t rfl h
    obtain ⟨hc, h⟩ := ite_n h
    rw [Bool.and_eq_true, okL_iff] at hc
    obtain ⟨⟨hok, hlen⟩, hdg⟩ := hc
    have hdg := of_decide_eq_true hdg
    refine mvd ?_
    refine vk (vfa gF_R_1) ?_
    refine vk (vldp ga_L) ?_
    refine cl (xs := [.sl (L a.2.1)]) ?_ (Bits_fn hok hlen) Try.call101
    refine vk (vbi) ?_
    refine vk (vpkd) ?_
    refine rn ?_
    by_cases hb : bitsN (val a.2.1) ≤ 64
    · rw [if_pos hb] at h
      cases h
      have hb1 : decide ((64 : Int) < (bitsN (val a.2.1) : Nat)) = false := decide_eq_false (by omega)
      refine cnf hb1 ?_
      refine .skip ?_
      show AWM _ _ _ _ _ _
      have hv64 : val a.2.1 < 18446744073709551616 := bitsN_iff.1 hb
      have hlen2 : a.2.1.length ≤ 2 := by rw [← hdg]; exact digs_len (by omega)
      have hvs := val_two hok hlen2
      refine .seqA ?_
      refine .region ?_
      refine al ?_ zu64 (fun w I μ => .cons (c := .d (.i .u64 0)) (b1 := []) (.d (.i _ _)) .nil)
      refine stb (cs := [.d (.i .u64 0)]) (c := .d (.i .u64 0)) rfl rfl ?_ zu1
      refine rn ?_
      show AWM _ _ _ _ _ _
      refine .seq rfl ?_
      refine .seqA ?_
      refine .region ?_
      refine vk (vfa gF_R_1) ?_
      refine vk (vldp ga_L) ?_
      refine cl (xs := [.sl (L a.2.1)]) ?_ (Backward_fn (L a.2.1)) Try.call102
      refine rn ?_
      show AWM _ _ _ _ _ _
      obtain ⟨s, xs, den⟩ := a
      dsimp only at *
      have hys : ∀ ds ∈ backY (L xs), ds.length = 2 := fun ds hds => by
        obtain ⟨k, hk⟩ := List.getElem?_of_mem hds
        rw [(backY_at hk).2]; rfl
      have hit := bw_it (L xs) (by intro x hx; simp only [L, List.mem_map] at hx; obtain ⟨n, _, rfl⟩ := hx; rfl) (by rw [L_length]; omega)
      refine .block ?_
      refine .rangeFunc rfl rfl rfl Try.call129 hit hys (by decide) (by decide) rfl (fun k => [.box [.d (.i .u64 ((val (xs.drop (xs.length - k)) : Nat) : Int))]]) (by simp [val]) ?_ ?_
      · intro l k d1 d2 hk
        obtain ⟨hk1, hk2⟩ := backY_at hk
        rw [L_length] at hk1 hk2
        have hj : xs.length - 1 - k < xs.length := by omega
        have hxat : (L xs).getD (xs.length - 1 - k) .np = U xs[xs.length - 1 - k] := by
          rw [List.getD_eq_getElem?_getD, L_at (List.getElem?_eq_getElem hj)]; rfl
        rw [hxat] at hk2
        simp only [List.cons.injEq, and_true] at hk2
        obtain ⟨rfl, rfl⟩ := hk2
        have hva := val_at hj
        have hx := hok.at (List.getElem?_eq_getElem hj)
        have hsm := hvs (xs.length - 1 - k)
        have e1 : xs.length - 1 - k + 1 = xs.length - k := by omega
        have e2 : xs.length - (k + 1) = xs.length - 1 - k := by omega
        rw [e1] at hva hsm
        rw [e2]
        generalize xs[xs.length - 1 - k] = x at *
        generalize val (xs.drop (xs.length - k)) = n at *
        rw [hva]
        refine .region ?_
        refine asd ?_
        refine rn ?_
        show AW _ _ _ _ _ _
        refine .block ?_
        refine .region ?_
        refine ldb (cs := [.d (.i .u64 (n : Int))]) (c := .d (.i .u64 (n : Int))) rfl rfl ?_ au1
        refine bie (.i .u64 ((n * 4294967296 : Nat) : Int)) ?_ ?_
        · refine ⟨by decide, ?_⟩
          have : IntKind.u64.wrap ((n : Int) * 4294967296) = ((n * 4294967296 : Nat) : Int) := by
            rw [wraps_u64 _ (by omega) (by omega)]; omega
          rw [← this]; simp [IntKind.bits]
        refine mvd ?_
        refine cve (x : Int) (wraps_u64 _ (by omega) (by omega)) ?_ u32 u64
        refine bie (.i .u64 ((n * 4294967296 + x : Nat) : Int)) ?_ ?_
        · exact ⟨trivial, by rw [u64_join hsm hx]⟩
        refine stb (cs := [.d (.i .u64 (n : Int))]) (c := .d (.i .u64 (n : Int))) rfl rfl ?_ zu1
        refine .nil ?_
        refine ⟨rfl, ?_⟩
        rw [show n * 4294967296 + x = x + 4294967296 * n by omega]
        rfl
      · show AWM _ _ _ _ _ _
        refine .lift ?_
        rw [backY_length, L_length, Nat.sub_self, List.drop_zero]
        have hn : val xs < 18446744073709551616 := hv64
        generalize val xs = n at *
        cases s with
        | true =>
          refine .seq ?_
          refine .block ?_
          refine .seq ?_
          refine .region ?_
          refine vk (vfa gF_R_0) ?_
          refine vk (vldp ga_bool) ?_
          refine mvd ?_
          refine ldb (cs := [.d (.i .u64 (n : Int))]) (c := .d (.i .u64 (n : Int))) rfl rfl ?_ au1
          refine vk (vbi) ?_
          refine vk (vpkd) ?_
          refine asd ?_
          refine rn ?_
          by_cases hle : n ≤ 9223372036854775808
          · refine cnt (decide_eq_true (show (n : Int) ≤ 9223372036854775808 by omega)) ?_
            refine .seq ?_
            refine .region ?_
            refine ldb (cs := [.d (.i .u64 (n : Int))]) (c := .d (.i .u64 (n : Int))) rfl rfl ?_ au1
            refine vk (vng) ?_
            refine vk (vcv u64 i64) ?_
            refine asd ?_
            refine asd ?_
            refine rn ?_
            refine .ret ?_
            refine ⟨by decide, ?_, rfl, rfl⟩
            rw [show intV true n = (-(n : Int), true) by rw [intV, if_pos rfl, if_pos hle], ← neg_wrap hle]; rfl
          · refine cnf (decide_eq_false (show ¬ ((n : Int) ≤ 9223372036854775808) by omega)) ?_
            refine .seq ?_
            refine .region ?_
            refine vk (vfa gF_R_0) ?_
            refine vk (vldp ga_bool) ?_
            refine vk (vnt) ?_
            refine mvd ?_
            refine gf ?_
            refine gf ?_
            refine vk (vpkd) ?_
            refine asd ?_
            refine rn ?_
            refine cnf rfl ?_
            refine .skip ?_
            show AW _ _ _ _ _ _
            refine .seq ?_
            refine .region ?_
            refine asd ?_
            refine asd ?_
            refine rn ?_
            refine .ret ?_
            exact ⟨by decide, by rw [show intV true n = (0, false) by rw [intV, if_pos rfl, if_neg hle]]; rfl, rfl, rfl⟩
        | false =>
          refine .seq ?_
          refine .block ?_
          refine .seq ?_
          refine .region ?_
          refine vk (vfa gF_R_0) ?_
          refine vk (vldp ga_bool) ?_
          refine mvd ?_
          refine gf ?_
          refine gf ?_
          refine vk (vpkd) ?_
          refine asd ?_
          refine rn ?_
          refine cnf rfl ?_
          refine .seq ?_
          refine .region ?_
          refine vk (vfa gF_R_0) ?_
          refine vk (vldp ga_bool) ?_
          refine vk (vnt) ?_
          refine mvd ?_
          refine ldb (cs := [.d (.i .u64 (n : Int))]) (c := .d (.i .u64 (n : Int))) rfl rfl ?_ au1
          refine vk (vbi) ?_
          refine vk (vpkd) ?_
          refine asd ?_
          refine rn ?_
          by_cases hlt : n < 9223372036854775808
          · refine cnt (decide_eq_true (show (n : Int) < 9223372036854775808 by omega)) ?_
            refine .seq ?_
            refine .region ?_
            refine ldb (cs := [.d (.i .u64 (n : Int))]) (c := .d (.i .u64 (n : Int))) rfl rfl ?_ au1
            refine vk (vcv u64 i64) ?_
            refine asd ?_
            refine asd ?_
            refine rn ?_
            refine .ret ?_
            refine ⟨by decide, ?_, rfl, rfl⟩
            rw [show intV false n = ((n : Int), true) by rw [intV, if_neg (by decide), if_pos hlt]]
            have := wraps_i64 (n : Int) (by omega) (by omega)
            exact (show AV.tup [.d (.i .i64 (n : Int)), .d (.b true)] = .tup [.d (.i .i64 (IntKind.i64.wrap (n : Int))), .d (.b true)] by rw [this]).trans rfl
          · refine cnf (decide_eq_false (show ¬ ((n : Int) < 9223372036854775808) by omega)) ?_
            refine .skip ?_
            show AW _ _ _ _ _ _
            refine .seq ?_
            refine .region ?_
            refine asd ?_
            refine asd ?_
            refine rn ?_
            refine .ret ?_
            exact ⟨by decide, by rw [show intV false n = (0, false) by rw [intV, if_neg (by decide), if_neg hlt]]; rfl, rfl, rfl⟩
    · rw [if_neg hb] at h
      cases h
      have hb1 : decide ((64 : Int) < (bitsN (val a.2.1) : Nat)) = true := decide_eq_true (by omega)
      refine cnt hb1 ?_
      refine .seq ?_
      refine .region ?_
      refine asd ?_
      refine asd ?_
      refine rn ?_
      refine .ret ?_
      exact ⟨by decide, rfl, rfl, rfl⟩
end Go.FL
