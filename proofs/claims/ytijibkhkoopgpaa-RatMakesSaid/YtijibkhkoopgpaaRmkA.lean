/-
  The law: its function printed as a pure function, its contract, the plain law, the statement
-/
import Derived.Test.YtijibkhkoopgpaaRbE
import Derived.Test.YtijibkhkoopgpaaRows
set_option linter.unusedVariables false
/-
  GP: the law RatMakes.
-/
namespace Go.FL
open Go Go.Proofs

def law02_RatMakes (a0 : Bool) (a1 : (List Nat)) (a2 : (List Nat)) : Option (Bool) := (if ((decide (80 < ((List.length a1 : Nat) : Int))) || (decide (80 < ((List.length a2 : Nat) : Int)))) = true then (law02_live.bind fun x1 => (some (x1))) else ((ratMake a0 a1 a2).bind fun x2 => ((ref2Make a0 a1 a2).bind fun x3 => (law02_live.bind fun x4 => (Option.bind ((if x4 = true then ((law02_same x2.1 x2.2 x3.1 x3.2).bind fun x6 => (if x6 = true then ((ratRight (a0, a1, a2)).bind fun x7 => ((ref2Right (a0, a1, a2)).bind fun x8 => (if (x7 == x8) = true then (if x2.2 = 0 then ((ratRight x2.1).bind fun x9 => (some x9)) else (some true)) else (some false)))) else (some false))) else (some false)) : Option (Bool)) fun (z4 : Bool) => (some (z4)))))))
theorem law02_RatMakes_ok {a0 : Bool} {a1 : (List Nat)} {a2 : (List Nat)} {r : Bool} (h : law02_RatMakes a0 a1 a2 = some r) :
    Fn Try.prog 3 [.b a0, .sl (L a1), .sl (L a2)] (.d (.b r)) := by
  unfold law02_RatMakes at h
  refine Fn.of (rs := [.tmp 6]) (nt := 62) Try.func3 rfl rfl rfl (by simp) rfl ?_
  refine .seq ?_
  refine .region ?_
  refine asd ?_
  refine rn ?_
  refine .gh (Gh.keep [0, 1, 2, 6] rfl) ?_
  refine .seq ?_
  refine .seq ?_
  refine AW.mr (σ := Unit) (fun _ => True) (fun _ => [(0, .d (.b a0)), (1, .d (.sl (L a1))), (2, .d (.sl (L a2))), (6, .d (.b false)), (19, .d (.b ((decide (80 < ((List.length a1 : Nat) : Int))) || (decide (80 < ((List.length a2 : Nat) : Int))))))]) (fun _ => []) ?_ ?_
  · skip
    refine .region ?_
    refine vk (vmvd) ?_
    refine vk (vlnE (L_length _) (L_sz _) gu_L) ?_
    refine vk (vbi) ?_
    by_cases hc : 80 < ((List.length a1 : Nat) : Int)
    · have hb0 : (decide (80 < ((List.length a1 : Nat) : Int))) = true := (decide_eq_true hc)
      refine vk (VOK.lit (vmvd) hb0) ?_
      refine gf ?_
      refine gf ?_
      refine gf ?_
      refine vk (vpkd) ?_
      refine RL.gh (Gh.keep [0, 1, 2, 6, 19] rfl) ?_
      refine .nil ?_
      exact jr () trivial (by simp only [hb0]; rfl)
    have hb0 : (decide (80 < ((List.length a1 : Nat) : Int))) = false := (decide_eq_false hc)
    refine vk (VOK.lit (vmvd) hb0) ?_
    refine vk (vmvd) ?_
    refine vk (vlnE (L_length _) (L_sz _) gu_L) ?_
    refine vk (vbi) ?_
    refine vk (vpkd) ?_
    refine RL.gh (Gh.keep [0, 1, 2, 6, 19] rfl) ?_
    refine .nil ?_
    exact jr () trivial (by simp only [hb0]; rfl)
  rintro _ _
  by_cases hc : ((decide (80 < ((List.length a1 : Nat) : Int))) || (decide (80 < ((List.length a2 : Nat) : Int)))) = true
  · replace h := ite_t hc h
    refine cnt hc ?_
    refine .seq ?_
    refine .region ?_
    obtain ⟨x1, hx1, h⟩ := bnd h
    refine vk (vcl0 (law02_live_ok hx1) Try.call15) ?_
    refine asd ?_
    refine rn ?_
    refine .gh (Gh.keep [0, 1, 2, 6] rfl) ?_
    refine .ret ?_
    cases h
    exact ⟨rfl, rfl⟩
  replace h := ite_f hc h
  refine cnf (bf hc) ?_
  refine .skip ?_
  show AW _ _ _ _ _ _
  refine .seq ?_
  refine .region ?_
  refine vk (vmvd) ?_
  refine vk (vmvd) ?_
  refine vk (vmvd) ?_
  obtain ⟨x2, hx2, h⟩ := bnd h
  refine vk (VOK.tupd (vs := [.ag [.b x2.1.1, .sl (L x2.1.2.1), .sl (L x2.1.2.2)], .i .i64 x2.2]) (vcl0 (ratMake_ok hx2) Try.call16)) ?_
  refine vk (vmvd) ?_
  refine vk (vex) ?_
  refine vk (vex) ?_
  refine vk (van (zero_of gI_R) gZ_R) ?_
  refine stn ?_ gS_R (by decide)
  refine asd ?_
  refine rn ?_
  refine .gh (Gh.keep [0, 1, 2, 6, 7, 8] rfl) ?_
  refine .seq ?_
  refine .region ?_
  refine vk (vmvd) ?_
  refine vk (vmvd) ?_
  refine vk (vmvd) ?_
  obtain ⟨x3, hx3, h⟩ := bnd h
  refine vk (VOK.tupd (vs := [.ag [.b x3.1.1, .sl (L x3.1.2.1), .sl (L x3.1.2.2)], .i .i64 x3.2]) (vcl0 (ref2Make_ok hx3) Try.call17)) ?_
  refine vk (vmvd) ?_
  refine vk (vex) ?_
  refine vk (vex) ?_
  refine vk (van (zero_of gI_R) gZ_R) ?_
  refine stn ?_ gS_R (by decide)
  refine asd ?_
  refine rn ?_
  refine .gh (Gh.keep [0, 1, 2, 6, 7, 8, 9, 10] rfl) ?_
  refine .seq ?_
  refine .region ?_
  refine vk (vmvd) ?_
  refine vk (vmvd) ?_
  refine vk (vmvd) ?_
  refine vk (vbd gP_R gI_R gZ_R) ?_
  refine vk (van (zero_of gI_R) gZ_R) ?_
  refine stn ?_ gS_R (by decide)
  refine rn ?_
  refine .gh (Gh.keep [6, 7, 8, 9, 10, 11] rfl) ?_
  refine .seq ?_
  obtain ⟨x4, hx4, h⟩ := bnd h
  obtain ⟨z4, hz, h⟩ := bnd h
  refine AW.mr (σ := Unit) (fun _ => True) (fun _ => [(6, .d (.b z4))]) (fun _ => []) ?_ ?_
  · skip
    refine .drawn 23 mixed (by kernel_rfl) ?_
    refine dv (vcl0 (law02_live_ok hx4) Try.call15) ?_
    by_cases hc : x4 = true
    · replace hz := ite_t hc hz
      have hb0 : x4 = true := hc
      refine dv (VOK.lit (vmvd) hb0) ?_
      refine dv (vldn gA_R gS_R) ?_
      refine dv (vmvd) ?_
      refine dv (vldn gA_R gS_R) ?_
      refine dv (vmvd) ?_
      obtain ⟨x6, hx6, hz⟩ := bnd hz
      refine dv (vcl0 (law02_same_ok hx6) Try.call18) ?_
      refine dv (vpkd) ?_
      by_cases hc : x6 = true
      · replace hz := ite_t hc hz
        have hb1 : x6 = true := hc
        refine dv (VOK.lit (vmvd) hb1) ?_
        refine dv (vldn gA_R gS_R) ?_
        obtain ⟨x7, hx7, hz⟩ := bnd hz
        refine dv (vcl0 (ratRight_ok hx7) Try.call19) ?_
        refine dv (vldn gA_R gS_R) ?_
        obtain ⟨x8, hx8, hz⟩ := bnd hz
        refine dv (vcl0 (ref2Right_ok hx8) Try.call20) ?_
        refine dv (vbbn (.inl rfl) bo) ?_
        refine dv (vpkd) ?_
        by_cases hc : (x7 == x8) = true
        · replace hz := ite_t hc hz
          have hb2 : (x7 == x8) = true := hc
          refine dv (VOK.lit (vmvd) hb2) ?_
          refine dv (vmvd) ?_
          refine dv (vbi) ?_
          by_cases hc : x2.2 = 0
          · replace hz := ite_t hc hz
            have hb3 : (!(decide (x2.2 = 0))) = false := (ntf (decide_eq_true hc))
            refine dv (VOK.lit (vmvd) hb3) ?_
            refine dv (vldn gA_R gS_R) ?_
            obtain ⟨x9, hx9, hz⟩ := bnd hz
            refine dv (vcl0 (ratRight_ok hx9) Try.call19) ?_
            refine dv (vpkd) ?_
            refine dv (vpkd) ?_
            refine dz ?_
            refine asd ?_
            refine RL.gh (Gh.keep [6] rfl) ?_
            refine .nil ?_
            cases hz
            exact jr () trivial
          replace hz := ite_f hc hz
          have hb3 : (!(decide (x2.2 = 0))) = true := (ntt (decide_eq_false hc))
          refine dv (VOK.lit (vmvd) hb3) ?_
          refine dgf ?_
          refine dgf ?_
          refine dv (vpkd) ?_
          refine dv (vpkd) ?_
          refine dz ?_
          refine asd ?_
          refine RL.gh (Gh.keep [6] rfl) ?_
          refine .nil ?_
          cases hz
          exact jr () trivial
        replace hz := ite_f hc hz
        have hb2 : (x7 == x8) = false := (bf hc)
        refine dv (VOK.lit (vmvd) hb2) ?_
        refine dgf ?_
        refine dgf ?_
        refine dgfu ?_
        refine dgf ?_
        refine dgf ?_
        refine dgf ?_
        refine dv (vpkd) ?_
        refine dz ?_
        refine asd ?_
        refine RL.gh (Gh.keep [6] rfl) ?_
        refine .nil ?_
        cases hz
        exact jr () trivial
      replace hz := ite_f hc hz
      have hb1 : x6 = false := (bf hc)
      refine dv (VOK.lit (vmvd) hb1) ?_
      refine dgf ?_
      refine dgf ?_
      refine dgf ?_
      refine dgf ?_
      refine dgf ?_
      refine dv (vpkd) ?_
      refine dv (vmvd) ?_
      refine dgf ?_
      refine dgf ?_
      refine dgfu ?_
      refine dgf ?_
      refine dgf ?_
      refine dgf ?_
      refine dv (vpkd) ?_
      refine dz ?_
      refine asd ?_
      refine RL.gh (Gh.keep [6] rfl) ?_
      refine .nil ?_
      cases hz
      exact jr () trivial
    replace hz := ite_f hc hz
    have hb0 : x4 = false := (bf hc)
    refine dv (VOK.lit (vmvd) hb0) ?_
    refine dgf ?_
    refine dgf ?_
    refine dgf ?_
    refine dgf ?_
    refine dgf ?_
    refine dv (vpkd) ?_
    refine dv (vmvd) ?_
    refine dgf ?_
    refine dgf ?_
    refine dgf ?_
    refine dgf ?_
    refine dgf ?_
    refine dv (vpkd) ?_
    refine dv (vmvd) ?_
    refine dgf ?_
    refine dgf ?_
    refine dgfu ?_
    refine dgf ?_
    refine dgf ?_
    refine dgf ?_
    refine dv (vpkd) ?_
    refine dz ?_
    refine asd ?_
    refine RL.gh (Gh.keep [6] rfl) ?_
    refine .nil ?_
    cases hz
    exact jr () trivial
  rintro _ _
  refine .ret ?_
  cases h
  exact ⟨rfl, rfl⟩
end Go.FL
/-
  GP: the law RatReckons.
-/
namespace Go.FL
open Go Go.Proofs

end Go.FL
/-
  GP: the law RatOrders.
-/
namespace Go.FL
open Go Go.Proofs

end Go.FL
/-
  GP: the law RatRounds.
-/
namespace Go.FL
open Go Go.Proofs

end Go.FL
/-
  Plain laws, rat 7: RatMakes, RatReckons, RatOrders, RatRounds.
-/
namespace Go.FL
open Go Go.Proofs

theorem ofQ_len {p : Rat} (h : fits p) : (ofQ p).2.1.length ≤ 1048576 ∧ (ofQ p).2.2.length ≤ 1048576 := ⟨Nat.le_trans h.1 (by decide), Nat.le_trans h.2 (by decide)⟩
/-- An answer whose number is not too long. -/
def okA (x : RT × Int) : Prop := x.1.2.1.length ≤ 1048576 ∧ x.1.2.2.length ≤ 1048576
theorem okA_bad (e : Int) : okA (bad e) := ⟨Nat.zero_le _, Nat.zero_le _⟩
theorem okA_of {p : Rat} (h : fits p) (e : Int) : okA (ofQ p, e) := ofQ_len h
theorem okA_res (p : Rat) : okA (resR p) := by
  by_cases h : fits p
  · rw [resR_fits h]; exact okA_of h 0
  · rw [resR_not h]; exact okA_bad 8
theorem same_refl {x : RT × Int} (h : okA x) : law02_same x.1 x.2 x.1 x.2 = some true := by rw [same_eq (Nat.le_trans h.1 (by decide)) (Nat.le_trans h.2 (by decide))]; simp
theorem lawMakes {a0 : Bool} {a1 a2 : List Nat} (h1 : okL 35184372087808 a1 = true) (h2 : okL 35184372087808 a2 = true) : law02_RatMakes a0 a1 a2 = some true := by
  unfold law02_RatMakes
  by_cases h : (decide (80 < ((List.length a1 : Nat) : Int)) || decide (80 < ((List.length a2 : Nat) : Int))) = true
  · rw [if_pos h, live_eq]; rfl
  · rw [if_neg h]
    simp only [Bool.or_eq_true, decide_eq_true_eq, not_or] at h
    have k1 : okL 100000 a1 = true := okL_iff.2 ⟨(okL_iff.1 h1).1, by omega⟩
    have k2 : okL 100000 a2 = true := okL_iff.2 ⟨(okL_iff.1 h2).1, by omega⟩
    have e1 : ratMake a0 a1 a2 = some (resQ (makeE a0 (val a1) (val a2))) := if_pos (by rw [k1, k2]; rfl)
    have e2 : ref2Make a0 a1 a2 = some (resQ (makeE a0 (val a1) (val a2))) := if_pos (by rw [k1, k2]; rfl)
    have hr : okRB (a0, a1, a2) = true := by rw [okRB, h1, h2]; rfl
    have key : ∃ x : RT × Int, resQ (makeE a0 (val a1) (val a2)) = x ∧ okA x ∧ (x.2 = 0 → ∃ p, fits p ∧ x.1 = ofQ p) := by
      refine ⟨_, rfl, ?_, ?_⟩
      · unfold makeE; split
        · exact okA_bad 22
        · rename_i h0; rw [lowE_rat h0, resQ_lowR]; exact okA_res _
      · unfold makeE; split
        · intro h; cases h
        · rename_i h0; rw [lowE_rat h0, resQ_lowR]
          intro h
          by_cases hf : fits (mkRat (sg a0 (val a1)) (val a2))
          · exact ⟨_, hf, by rw [resR_fits hf]⟩
          · rw [resR_not hf] at h; cases h
    obtain ⟨x, hx, hx1, hx2⟩ := key
    rw [e1, Option.bind_some, e2, Option.bind_some, live_eq, Option.bind_some, if_pos rfl, hx, same_refl hx1, Option.bind_some, if_pos rfl, ratRight_eq hr, Option.bind_some, ref2Right_eq hr, Option.bind_some, if_pos (by simp)]
    by_cases h0 : x.2 = 0
    · rw [if_pos h0]
      obtain ⟨p, hp, e⟩ := hx2 h0
      rw [e, ratRight_eq (ofQ_okRB hp), ofQ_right hp]; rfl
    · rw [if_neg h0]; rfl
end Go.FL
/-
  The statement RatMakesSaid: for every input the law gives true, and each argument reads as it read before.
-/
namespace Go.Proofs.Ytijibkhkoopgpaa.ratMakes
open Go.ChangeShapes Go.WideShapes Go.ChangeAt Go.RowKit Go.FL

theorem own : ownKnob Try.prog.godebug = none := by kernel_rfl
theorem laid : laidOutB Try.prog = true := by kernel_rfl
theorem params : ∀ t ∈ Try.f3.params.toList, Try.prog.readableRec t = true ∧ t < Try.prog.types.size := by
  intro t ht
  simp only [Try.params3, List.mem_cons, List.not_mem_nil, or_false] at ht
  rcases ht with rfl | rfl | rfl <;> exact ⟨by kernel_rfl, of_decide_eq_true (by kernel_rfl)⟩
set_option maxRecDepth 100000 in
theorem lifted (os : Os) (started : os.Started) (H : Type) (enc : TypeId × Value → H) :
    ReturnsInHanded {} Try.checked os 3 .any (Rows.ratMakesSpec.pre6 enc Try.prog Try.f3 Rows.ratMakesRow.domain false) (Rows.ratMakesSpec.post enc Try.prog Try.f3 false true false false) := by
  refine returnsInHanded_of_change_sized (C := Try.checked) own started (by kernel_rfl) Try.func3
    (ChangeSpec.witness6 (enc := enc) (C := Try.checked) false ⟨#[], #[.bool false, .slice none 0 0, .slice none 0 0], []⟩ 8 (by kernel_rfl) (by kernel_rfl) (by kernel_rfl) (by kernel_rfl)) ?_
  intro W base args ds gs before hval0 hW hcnd hsz _
  have hval : ∀ (j : Nat) t v, Try.f3.params[j]? = some t → args[j]? = some v → Value.okWide Try.prog W .any base t v := hval0
  have hW' := hW
  obtain ⟨p, q, hA0, hV, rfl, hfz, hnd⟩ := hW
  have hA : DataW.TrodAll enc Try.prog W 0 (fun _ => true) true Try.f3.params.toList args.toList ds p := hA0
  rw [Try.params3] at hA hval
  obtain ⟨v0, vs0, d0, ds0, p0, q0, hargs, rfl, rfl, h0, r0⟩ := trodAll_cons hA
  obtain ⟨v1, vs1, d1, ds1, p1, q1, rfl, rfl, rfl, h1, r1⟩ := trodAll_cons r0
  obtain ⟨v2, vs2, d2, ds2, p2, q2, rfl, rfl, rfl, h2, r2⟩ := trodAll_cons r1
  obtain ⟨rfl, rfl, rfl⟩ := trodAll_nil r2
  obtain rfl : args = #[v0, v1, v2] := by cases args; simp_all
  obtain ⟨rfl, rfl⟩ := trodVars_none hV
  rw [Try.params3] at hsz
  have w0 : ∀ m ∈ DataW.weights Try.prog 4 d0, m ≤ reachBytes := fun m hm => by simpa using List.all_eq_true.1 hsz m (DataW.weights_mem_each (j := 0) rfl rfl m hm)
  obtain ⟨a0, e0⟩ := arg_bool Try.underlying4 (hval 0 4 v0 rfl rfl) h0
  have w1 : ∀ m ∈ DataW.weights Try.prog 22 d1, m ≤ reachBytes := fun m hm => by simpa using List.all_eq_true.1 hsz m (DataW.weights_mem_each (j := 1) rfl rfl m hm)
  obtain ⟨a1, o1, e1⟩ := arg_cell (v := v1) op_limbs (by obtain ⟨x0, x1, x2, rfl⟩ := okWide_slice Try.underlying22 (hval 1 22 v1 rfl rfl); rfl) h1 w1
  have w2 : ∀ m ∈ DataW.weights Try.prog 22 d2, m ≤ reachBytes := fun m hm => by simpa using List.all_eq_true.1 hsz m (DataW.weights_mem_each (j := 2) rfl rfl m hm)
  obtain ⟨a2, o2, e2⟩ := arg_cell (v := v2) op_limbs (by obtain ⟨x0, x1, x2, rfl⟩ := okWide_slice Try.underlying22 (hval 2 22 v2 rfl rfl); rfl) h2 w2
  refine (law_calls (law02_RatMakes_ok (lawMakes o1 o2)) (.cons e0 (.cons e1 (.cons e2 .nil)))).mono fun e W' ⟨he, hb⟩ => ?_
  subst he
  exact ⟨_, rfl, post_law hW' rfl (fun _ => rfl) rfl Try.underlying4 laid params hb⟩

theorem over : Rows.ratMakesRow.holds Try.pinned (OpenSpec.ofChange Rows.ratMakesSpec) :=
  OpenClaim.holds_of_wide 3 Try.f3 rfl rfl rfl rfl rfl rfl rfl ⟨rfl, rfl, rfl, rfl, rfl⟩ rfl rfl rfl rfl rfl (by kernel_rfl) Try.func3 (by kernel_rfl)
    (of_decide_eq_true (by kernel_rfl)) (by unfold Func.isWrapper; first | (rw [if_pos (by decide +kernel)]; kernel_rfl) | (rw [if_neg (by decide +kernel)]; exact ⟨rfl, rfl⟩))
    (fun os started H enc _ => lifted os started H enc)

theorem proved : Rows.RatMakesSaid :=
  over
end Go.Proofs.Ytijibkhkoopgpaa.ratMakes
