/-
  The law: its function printed as a pure function, its contract, the plain law, the statement
-/
import Derived.Test.YtcoofpnbnifbbaaArE
import Derived.Test.YtcoofpnbnifbbaaRows
set_option linter.unusedVariables false
/-
  GP: the law ArrayBack.
-/
namespace Go.FL
open Go Go.Proofs

def law03_ArrayBack (a0 : Arr) : Option (Bool) := ((array_Right a0).bind fun x1 => (if x1 = true then ((array_Enclose a0).bind fun x2 => ((array_Depth a0).bind fun x3 => (Option.bind ((if 16 ≤ x3 then (some true) else ((array_Cells a0).bind fun x5 => (some (decide (16384 ≤ x5))))) : Option (Bool)) fun (z3 : Bool) => ((array_Type a0).bind fun x6 => (law03_live.bind fun x7 => (Option.bind ((if x7 = true then (if z3 = true then (if x2.kind = 3 then ((array_Type x6).bind fun x9 => ((array_Match x9 x6).bind fun x10 => (if x10 = true then ((array_Right x6).bind fun x11 => (some x11)) else (some false)))) else ((array_Open x2).bind fun x12 => ((array_Match x12 a0).bind fun x13 => (if x13 = true then ((array_Type x6).bind fun x14 => ((array_Match x14 x6).bind fun x15 => (if x15 = true then ((array_Right x6).bind fun x16 => (some x16)) else (some false)))) else (some false))))) else ((array_Open x2).bind fun x17 => ((array_Match x17 a0).bind fun x18 => (if x18 = true then ((array_Type x6).bind fun x19 => ((array_Match x19 x6).bind fun x20 => (if x20 = true then ((array_Right x6).bind fun x21 => (some x21)) else (some false)))) else (some false))))) else (some false)) : Option (Bool)) fun (z7 : Bool) => (some (z7)))))))) else (law03_live.bind fun x22 => (some (x22)))))
theorem law03_ArrayBack_ok {a0 : Arr} {r : Bool} (h : law03_ArrayBack a0 = some r) :
    Fn Try.prog 10 [.ag [.sl (Is a0.shape), .sl (Its a0.items)]] (.d (.b r)) := by
  unfold law03_ArrayBack at h
  refine Fn.of (rs := [.tmp 2]) (nt := 47) Try.func10 rfl rfl rfl (by simp) rfl ?_
  refine .seq ?_
  refine .region ?_
  refine vk (vbx) ?_
  refine asd ?_
  refine rn ?_
  refine .gh (Gh.keep [1, 2] rfl) ?_
  refine .seq ?_
  refine .seq ?_
  refine .region ?_
  refine vk (vlda gA_Arr gS_Arr) ?_
  obtain ⟨x1, hx1, h⟩ := bnd h
  refine vk (vcl0 (array_Right_ok hx1) Try.call12) ?_
  refine vk (vnt) ?_
  refine rn ?_
  refine .gh (Gh.keep [1, 2, 8] rfl) ?_
  by_cases hc : x1 = true
  · replace h := ite_t hc h
    refine cnf (ntf hc) ?_
    refine .skip ?_
    show AW _ _ _ _ _ _
    refine .seq ?_
    refine .region ?_
    refine vk (vlda gA_Arr gS_Arr) ?_
    obtain ⟨x2, hx2, h⟩ := bnd h
    refine vk (vcl0 (array_Enclose_ok hx2) Try.call18) ?_
    refine vk (van (zero_of gI_Itm) gZ_Itm) ?_
    refine stn ?_ gS_Itm (by decide)
    refine rn ?_
    refine .gh (Gh.keep [1, 2, 3] rfl) ?_
    refine .seq ?_
    obtain ⟨x3, hx3, h⟩ := bnd h
    obtain ⟨z3, hz, h⟩ := bnd h
    refine AW.mr (σ := Unit) (fun _ => True) (fun _ => [(1, .d (.ptr [.sl (Is a0.shape), .sl (Its a0.items)])), (2, .d (.b false)), (3, .nb [.i .u8 x2.kind, .b x2.num.1, .sl (L x2.num.2.1), .sl (L x2.num.2.2), .i .i32 x2.char, .sl (Ars x2.box)]), (4, .d (.b z3))]) (fun _ => []) ?_ ?_
    · skip
      refine .region ?_
      refine vk (vlda gA_Arr gS_Arr) ?_
      refine vk (vcl0 (array_Depth_ok hx3) Try.call14) ?_
      refine vk (vbi) ?_
      by_cases hc : 16 ≤ x3
      · replace hz := ite_t hc hz
        have hb0 : (decide (16 ≤ x3)) = true := (decide_eq_true hc)
        refine vk (VOK.lit (vmvd) hb0) ?_
        refine gf ?_
        refine gf ?_
        refine gf ?_
        refine vk (vpkd) ?_
        refine asd ?_
        refine RL.gh (Gh.keep [1, 2, 3, 4] rfl) ?_
        refine .nil ?_
        cases hz
        exact jr () trivial
      replace hz := ite_f hc hz
      have hb0 : (decide (16 ≤ x3)) = false := (decide_eq_false hc)
      refine vk (VOK.lit (vmvd) hb0) ?_
      refine vk (vlda gA_Arr gS_Arr) ?_
      obtain ⟨x5, hx5, hz⟩ := bnd hz
      refine vk (vcl0 (array_Cells_ok hx5) Try.call15) ?_
      refine vk (vbi) ?_
      refine vk (vpkd) ?_
      refine asd ?_
      refine RL.gh (Gh.keep [1, 2, 3, 4] rfl) ?_
      refine .nil ?_
      cases hz
      exact jr () trivial
    rintro _ _
    refine .seq ?_
    refine .region ?_
    refine vk (vlda gA_Arr gS_Arr) ?_
    obtain ⟨x6, hx6, h⟩ := bnd h
    refine vk (vcl0 (array_Type_ok hx6) Try.call46) ?_
    refine vk (van (zero_of gI_Arr) gZ_Arr) ?_
    refine stn ?_ gS_Arr (by decide)
    refine rn ?_
    refine .gh (Gh.keep [1, 2, 3, 4, 5] rfl) ?_
    refine .seq ?_
    refine .gh (Gh.nbp (t := 3) rfl) ?_
    obtain ⟨x7, hx7, h⟩ := bnd h
    obtain ⟨z7, hz, h⟩ := bnd h
    refine AW.mr (σ := Unit) (fun _ => True) (fun _ => [(2, .d (.b z7))]) (fun _ => []) ?_ ?_
    · skip
      refine .drawn 25 mixed (by kernel_rfl) ?_
      refine dv (vcl0 (law03_live_ok hx7) Try.call16) ?_
      by_cases hc : x7 = true
      · replace hz := ite_t hc hz
        have hb0 : x7 = true := hc
        refine dv (VOK.lit (vmvd) hb0) ?_
        refine dv (vmvd) ?_
        by_cases hc : z3 = true
        · replace hz := ite_t hc hz
          have hb1 : z3 = true := hc
          refine dv (VOK.lit (vmvd) hb1) ?_
          refine dv (vfa gF_Itm_0) ?_
          refine dv (vldp ga_ItemKind) ?_
          refine dv (vbi) ?_
          refine dv (vpkd) ?_
          by_cases hc : x2.kind = 3
          · replace hz := ite_t hc hz
            have hb2 : (decide (x2.kind = 3)) = true := (decide_eq_true hc)
            refine dv (VOK.lit (vmvd) hb2) ?_
            refine dgf ?_
            refine dgf ?_
            refine dgf ?_
            refine dgf ?_
            refine dv (vpkd) ?_
            refine dv (vpkd) ?_
            refine dv (vmvd) ?_
            refine dv (vldn gA_Arr gS_Arr) ?_
            obtain ⟨x9, hx9, hz⟩ := bnd hz
            refine dv (vcl0 (array_Type_ok hx9) Try.call46) ?_
            refine dv (vldn gA_Arr gS_Arr) ?_
            obtain ⟨x10, hx10, hz⟩ := bnd hz
            refine dv (vcl0 (array_Match_ok hx10) Try.call47) ?_
            refine dv (vpkd) ?_
            by_cases hc : x10 = true
            · replace hz := ite_t hc hz
              have hb3 : x10 = true := hc
              refine dv (VOK.lit (vmvd) hb3) ?_
              refine dv (vldn gA_Arr gS_Arr) ?_
              obtain ⟨x11, hx11, hz⟩ := bnd hz
              refine dv (vcl0 (array_Right_ok hx11) Try.call12) ?_
              refine dv (vpkd) ?_
              refine dz ?_
              refine asd ?_
              refine RL.gh (Gh.keep [2] rfl) ?_
              refine .nil ?_
              cases hz
              exact jr () trivial
            replace hz := ite_f hc hz
            have hb3 : x10 = false := (bf hc)
            refine dv (VOK.lit (vmvd) hb3) ?_
            refine dgf ?_
            refine dgf ?_
            refine dv (vpkd) ?_
            refine dz ?_
            refine asd ?_
            refine RL.gh (Gh.keep [2] rfl) ?_
            refine .nil ?_
            cases hz
            exact jr () trivial
          replace hz := ite_f hc hz
          have hb2 : (decide (x2.kind = 3)) = false := (decide_eq_false hc)
          refine dv (VOK.lit (vmvd) hb2) ?_
          refine dv (vlda gA_Itm gS_Itm) ?_
          obtain ⟨x12, hx12, hz⟩ := bnd hz
          refine dv (vcl0 (array_Open_ok hx12) Try.call48) ?_
          refine dv (vlda gA_Arr gS_Arr) ?_
          obtain ⟨x13, hx13, hz⟩ := bnd hz
          refine dv (vcl0 (array_Match_ok hx13) Try.call47) ?_
          refine dv (vpkd) ?_
          refine dv (vpkd) ?_
          by_cases hc : x13 = true
          · replace hz := ite_t hc hz
            have hb3 : x13 = true := hc
            refine dv (VOK.lit (vmvd) hb3) ?_
            refine dv (vldn gA_Arr gS_Arr) ?_
            obtain ⟨x14, hx14, hz⟩ := bnd hz
            refine dv (vcl0 (array_Type_ok hx14) Try.call46) ?_
            refine dv (vldn gA_Arr gS_Arr) ?_
            obtain ⟨x15, hx15, hz⟩ := bnd hz
            refine dv (vcl0 (array_Match_ok hx15) Try.call47) ?_
            refine dv (vpkd) ?_
            by_cases hc : x15 = true
            · replace hz := ite_t hc hz
              have hb4 : x15 = true := hc
              refine dv (VOK.lit (vmvd) hb4) ?_
              refine dv (vldn gA_Arr gS_Arr) ?_
              obtain ⟨x16, hx16, hz⟩ := bnd hz
              refine dv (vcl0 (array_Right_ok hx16) Try.call12) ?_
              refine dv (vpkd) ?_
              refine dz ?_
              refine asd ?_
              refine RL.gh (Gh.keep [2] rfl) ?_
              refine .nil ?_
              cases hz
              exact jr () trivial
            replace hz := ite_f hc hz
            have hb4 : x15 = false := (bf hc)
            refine dv (VOK.lit (vmvd) hb4) ?_
            refine dgf ?_
            refine dgf ?_
            refine dv (vpkd) ?_
            refine dz ?_
            refine asd ?_
            refine RL.gh (Gh.keep [2] rfl) ?_
            refine .nil ?_
            cases hz
            exact jr () trivial
          replace hz := ite_f hc hz
          have hb3 : x13 = false := (bf hc)
          refine dv (VOK.lit (vmvd) hb3) ?_
          refine dgf ?_
          refine dgf ?_
          refine dgf ?_
          refine dgf ?_
          refine dv (vpkd) ?_
          refine dv (vmvd) ?_
          refine dgf ?_
          refine dgf ?_
          refine dv (vpkd) ?_
          refine dz ?_
          refine asd ?_
          refine RL.gh (Gh.keep [2] rfl) ?_
          refine .nil ?_
          cases hz
          exact jr () trivial
        replace hz := ite_f hc hz
        have hb1 : z3 = false := (bf hc)
        refine dv (VOK.lit (vmvd) hb1) ?_
        refine dgf ?_
        refine dgf ?_
        refine dgf ?_
        refine dv (vpkd) ?_
        refine dv (vmvd) ?_
        refine dv (vlda gA_Itm gS_Itm) ?_
        obtain ⟨x17, hx17, hz⟩ := bnd hz
        refine dv (vcl0 (array_Open_ok hx17) Try.call48) ?_
        refine dv (vlda gA_Arr gS_Arr) ?_
        obtain ⟨x18, hx18, hz⟩ := bnd hz
        refine dv (vcl0 (array_Match_ok hx18) Try.call47) ?_
        refine dv (vpkd) ?_
        refine dv (vpkd) ?_
        by_cases hc : x18 = true
        · replace hz := ite_t hc hz
          have hb2 : x18 = true := hc
          refine dv (VOK.lit (vmvd) hb2) ?_
          refine dv (vldn gA_Arr gS_Arr) ?_
          obtain ⟨x19, hx19, hz⟩ := bnd hz
          refine dv (vcl0 (array_Type_ok hx19) Try.call46) ?_
          refine dv (vldn gA_Arr gS_Arr) ?_
          obtain ⟨x20, hx20, hz⟩ := bnd hz
          refine dv (vcl0 (array_Match_ok hx20) Try.call47) ?_
          refine dv (vpkd) ?_
          by_cases hc : x20 = true
          · replace hz := ite_t hc hz
            have hb3 : x20 = true := hc
            refine dv (VOK.lit (vmvd) hb3) ?_
            refine dv (vldn gA_Arr gS_Arr) ?_
            obtain ⟨x21, hx21, hz⟩ := bnd hz
            refine dv (vcl0 (array_Right_ok hx21) Try.call12) ?_
            refine dv (vpkd) ?_
            refine dz ?_
            refine asd ?_
            refine RL.gh (Gh.keep [2] rfl) ?_
            refine .nil ?_
            cases hz
            exact jr () trivial
          replace hz := ite_f hc hz
          have hb3 : x20 = false := (bf hc)
          refine dv (VOK.lit (vmvd) hb3) ?_
          refine dgf ?_
          refine dgf ?_
          refine dv (vpkd) ?_
          refine dz ?_
          refine asd ?_
          refine RL.gh (Gh.keep [2] rfl) ?_
          refine .nil ?_
          cases hz
          exact jr () trivial
        replace hz := ite_f hc hz
        have hb2 : x18 = false := (bf hc)
        refine dv (VOK.lit (vmvd) hb2) ?_
        refine dgf ?_
        refine dgf ?_
        refine dgf ?_
        refine dgf ?_
        refine dv (vpkd) ?_
        refine dv (vmvd) ?_
        refine dgf ?_
        refine dgf ?_
        refine dv (vpkd) ?_
        refine dz ?_
        refine asd ?_
        refine RL.gh (Gh.keep [2] rfl) ?_
        refine .nil ?_
        cases hz
        exact jr () trivial
      replace hz := ite_f hc hz
      have hb0 : x7 = false := (bf hc)
      refine dv (VOK.lit (vmvd) hb0) ?_
      refine dgf ?_
      refine dgfu ?_
      refine dgf ?_
      refine dgf ?_
      refine dgf ?_
      refine dgf ?_
      refine dgfu ?_
      refine dgf ?_
      refine dgf ?_
      refine dgf ?_
      refine dgf ?_
      refine dgf ?_
      refine dv (vpkd) ?_
      refine dv (vmvd) ?_
      refine dgf ?_
      refine dgf ?_
      refine dgf ?_
      refine dgf ?_
      refine dv (vpkd) ?_
      refine dv (vmvd) ?_
      refine dgf ?_
      refine dgf ?_
      refine dv (vpkd) ?_
      refine dz ?_
      refine asd ?_
      refine RL.gh (Gh.keep [2] rfl) ?_
      refine .nil ?_
      cases hz
      exact jr () trivial
    rintro _ _
    refine .ret ?_
    cases h
    exact ⟨rfl, rfl⟩
  replace h := ite_f hc h
  refine cnt (ntt (bf hc)) ?_
  refine .seq ?_
  refine .region ?_
  obtain ⟨x22, hx22, h⟩ := bnd h
  refine vk (vcl0 (law03_live_ok hx22) Try.call16) ?_
  refine asd ?_
  refine rn ?_
  refine .gh (Gh.keep [1, 2] rfl) ?_
  refine .ret ?_
  cases h
  exact ⟨rfl, rfl⟩
end Go.FL
/-
  GP: the law ArrayDeeper.
-/
namespace Go.FL
open Go Go.Proofs

end Go.FL
/-
  GP: the law ArrayInts.
-/
namespace Go.FL
open Go Go.Proofs

end Go.FL
/-
  GP: the law ArraySimple.
-/
namespace Go.FL
open Go Go.Proofs

end Go.FL
/-
  Plain laws of arrays, 6: the document's way; the four laws.
-/
namespace Go.FL
open Go Go.Proofs

theorem box_right {a : Arr} (h : RightA a) (hs : simpleB a = false) : RightI (.mk 3 (false, [], []) 0 [a]) ∧ dI (.mk 3 (false, [], []) 0 [a]) = dA a ∧ cI (.mk 3 (false, [], []) 0 [a]) = cA a := by
  have e1 : dI (.mk 3 (false, [], []) 0 [a]) = dA a := by simp [dI, dBs]
  have e2 : cI (.mk 3 (false, [], []) 0 [a]) = cA a := by simp [cI, cBs]
  exact ⟨⟨rI_box h.1 hs, by rw [e1]; exact h.2.1, by rw [e2]; exact h.2.2⟩, e1, e2⟩
theorem or_bind {p : Prop} [Decidable p] {m : Option Int} {v : Int} (h : m = some v) {β : Type} (f : Bool → Option β) : Option.bind (if p then some true else m.bind fun x => some (decide (16384 ≤ x))) f = f (decide (p ∨ 16384 ≤ v)) := by
  by_cases hp : p
  · rw [if_pos hp, Option.bind_some, decide_eq_true (.inl hp)]
  · rw [if_neg hp, h, Option.bind_some, Option.bind_some]
    congr 1
    exact decide_eq_decide.2 ⟨.inr, fun h => h.elim (fun h => absurd h hp) id⟩
theorem lawBack {a : Arr} (ha : okAr a) : law03_ArrayBack a = some true := by
  unfold law03_ArrayBack
  rw [Right_eq ha, Option.bind_some]
  by_cases hr : RightA a
  rotate_left
  · rw [decide_eq_false hr, if_neg (by decide), live3]; rfl
  have o := (okAr_iff a).1 ha
  have hD : array_Depth a = some ((dA a : Nat) : Int) := by rw [Depth_eq ha, if_pos hr]
  have hC : array_Cells a = some ((cA a : Nat) : Int) := by rw [Cells_eq ha, if_pos hr]
  have hT := Type_eq ha
  rw [if_pos hr] at hT
  obtain ⟨t1, t2, t3, t4, t5, t6⟩ := tyA_ok ha hr.1
  have htr := tyA_right ha hr
  have hT2 := Type_eq t6
  rw [if_pos htr, t4] at hT2
  have hM : array_Match (tyA a) (tyA a) = some true := (Match_eq t6 t6 htr htr).yes rfl
  have hMa : array_Match a a = some true := (Match_eq ha ha hr hr).yes rfl
  have hTR : array_Right (tyA a) = some true := by rw [Right_eq t6, decide_eq_true htr]
  -- what is enclosed, and opened
  obtain ⟨x, hE, hO⟩ : ∃ x, array_Enclose a = some x ∧ array_Open x = some a := by
    by_cases hs : simpleB a = true
    · obtain ⟨y, rfl, hk⟩ := simple_shape hs
      refine ⟨y, by rw [Enclose_eq ha hr, if_pos hs]; rfl, ?_⟩
      have hy := (arr_right hr.1).2.2 y (by simp [it_mk])
      have hyo := o.2.2.2 y (by simp [it_mk])
      have hyb : y.box = [] := by
        rcases rI_cases hy with h | h | h
        · exact h.2.2.2
        · exact h.2.2.2
        · exact absurd h.1 hk
      have hyr : RightI y := ⟨hy, by rw [dI_eq, hyb]; simp [dBs], by rw [cI_eq, hyb]; simp [cBs]⟩
      rw [Open_eq hyo hyr, if_neg hk]
    · refine ⟨_, by rw [Enclose_eq ha hr, if_neg hs], ?_⟩
      rw [Open_eq (okI_box ha) (box_right hr (by simpa using hs)).1, if_pos (kd_mk 3 _ _ _)]; rfl
  rw [decide_eq_true hr, if_pos rfl, hE, Option.bind_some, hD, Option.bind_some, or_bind hC, hT, Option.bind_some, live3, Option.bind_some, if_pos rfl, hO, Option.bind_some, hMa, Option.bind_some, if_pos rfl, hT2, Option.bind_some, hM, Option.bind_some, if_pos rfl, hTR, Option.bind_some]
  split
  · split <;> rfl
  · rfl
end Go.FL
/-
  The statement ArrayBackSaid: for every input the law gives true, and each argument reads as it read before.
-/
namespace Go.Proofs.Ytcoofpnbnifbbaa.arrayBack
open Go.ChangeShapes Go.WideShapes Go.ChangeAt Go.RowKit Go.FL

theorem own : ownKnob Try.prog.godebug = none := by kernel_rfl
theorem laid : laidOutB Try.prog = true := by kernel_rfl
theorem params : ∀ t ∈ Try.f10.params.toList, Try.prog.readableRec t = true ∧ t < Try.prog.types.size := by
  intro t ht
  simp only [Try.params10, List.mem_cons, List.not_mem_nil, or_false] at ht
  rcases ht with rfl <;> exact ⟨by kernel_rfl, of_decide_eq_true (by kernel_rfl)⟩
set_option maxRecDepth 100000 in
theorem lifted (os : Os) (started : os.Started) (H : Type) (enc : TypeId × Value → H) :
    ReturnsInHanded {} Try.checked os 10 .any (Rows.arrayBackSpec.pre6 enc Try.prog Try.f10 Rows.arrayBackRow.domain false) (Rows.arrayBackSpec.post enc Try.prog Try.f10 false true false false) := by
  refine returnsInHanded_of_change_sized (C := Try.checked) own started (by kernel_rfl) Try.func10
    (ChangeSpec.witness6 (enc := enc) (C := Try.checked) false ⟨#[], #[.agg #[.slice none 0 0, .slice none 0 0]], []⟩ 8 (by kernel_rfl) (by kernel_rfl) (by kernel_rfl) (by kernel_rfl)) ?_
  intro W base args ds gs before hval0 hW hcnd hsz _
  have hval : ∀ (j : Nat) t v, Try.f10.params[j]? = some t → args[j]? = some v → Value.okWide Try.prog W .any base t v := hval0
  have hW' := hW
  obtain ⟨p, q, hA0, hV, rfl, hfz, hnd⟩ := hW
  have hA : DataW.TrodAll enc Try.prog W 0 (fun _ => true) true Try.f10.params.toList args.toList ds p := hA0
  rw [Try.params10] at hA hval
  obtain ⟨v0, vs0, d0, ds0, p0, q0, hargs, rfl, rfl, h0, r0⟩ := trodAll_cons hA
  obtain ⟨rfl, rfl, rfl⟩ := trodAll_nil r0
  obtain rfl : args = #[v0] := by cases args; simp_all
  obtain ⟨rfl, rfl⟩ := trodVars_none hV
  rw [Try.params10] at hsz
  have w0 : ∀ m ∈ DataW.weights Try.prog 25 d0, m ≤ reachBytes := fun m hm => by simpa using List.all_eq_true.1 hsz m (DataW.weights_mem_each (j := 0) rfl rfl m hm)
  obtain ⟨a0, o0, e0⟩ := arg_agg (v := v0) op_arr (let ⟨cs, h, _⟩ := okWide_struct (P := Try.prog) Try.underlying25 (hval 0 25 v0 rfl rfl); ⟨cs, h⟩) h0 w0
  refine (law_calls (law03_ArrayBack_ok (lawBack o0)) (.cons e0 .nil)).mono fun e W' ⟨he, hb⟩ => ?_
  subst he
  exact ⟨_, rfl, post_law hW' rfl (fun _ => rfl) rfl Try.underlying4 laid params hb⟩

theorem over : Rows.arrayBackRow.holds Try.pinned (OpenSpec.ofChange Rows.arrayBackSpec) :=
  OpenClaim.holds_of_wide 10 Try.f10 rfl rfl rfl rfl rfl rfl rfl ⟨rfl, rfl, rfl, rfl, rfl⟩ rfl rfl rfl rfl rfl (by kernel_rfl) Try.func10 (by kernel_rfl)
    (of_decide_eq_true (by kernel_rfl)) (by unfold Func.isWrapper; first | (rw [if_pos (by decide +kernel)]; kernel_rfl) | (rw [if_neg (by decide +kernel)]; exact ⟨rfl, rfl⟩))
    (fun os started H enc _ => lifted os started H enc)

theorem proved : Rows.ArrayBackSaid :=
  over
end Go.Proofs.Ytcoofpnbnifbbaa.arrayBack
