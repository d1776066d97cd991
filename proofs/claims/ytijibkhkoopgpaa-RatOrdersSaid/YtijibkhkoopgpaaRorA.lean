/-
  The law: its function printed as a pure function, its contract, the plain law, the statement
-/
import Derived.Test.YtijibkhkoopgpaaRbE
import Derived.Test.YtijibkhkoopgpaaRows
set_option linter.unusedVariables false
/-
  GP: the law RatMakes.
-/
namespace Go.FL
open Go Go.Proofs

end Go.FL
/-
  GP: the law RatReckons.
-/
namespace Go.FL
open Go Go.Proofs

end Go.FL
/-
  GP: the law RatOrders.
-/
namespace Go.FL
open Go Go.Proofs

def law02_RatOrders (a0 : RT) (a1 : RT) (a2 : RT) : Option (Bool) := ((rat_Compare a0 a1).bind fun x1 => ((rat_Compare a1 a2).bind fun x2 => ((rat_Compare a0 a2).bind fun x3 => ((ratRight a0).bind fun x4 => (Option.bind ((if x4 = true then ((ratRight a1).bind fun x6 => (if x6 = true then ((ratRight a2).bind fun x7 => (some (!x7))) else (some true))) else (some true)) : Option (Bool)) fun (z4 : Bool) => (if z4 = true then (law02_live.bind fun x8 => (some (x8))) else (law02_live.bind fun x9 => (Option.bind ((if x9 = true then (if x1 ≤ 0 then (if x2 ≤ 0 then (if x3 ≤ 0 then (if x1 = 0 then ((ref2Same a0 a1).bind fun x11 => (some x11)) else (some true)) else (some false)) else (if x1 = 0 then ((ref2Same a0 a1).bind fun x12 => (some x12)) else (some true))) else (if x1 = 0 then ((ref2Same a0 a1).bind fun x13 => (some x13)) else (some true))) else (some false)) : Option (Bool)) fun (z9 : Bool) => (some (z9))))))))))
theorem law02_RatOrders_ok {a0 : RT} {a1 : RT} {a2 : RT} {r : Bool} (h : law02_RatOrders a0 a1 a2 = some r) :
    Fn Try.prog 7 [.ag [.b a0.1, .sl (L a0.2.1), .sl (L a0.2.2)], .ag [.b a1.1, .sl (L a1.2.1), .sl (L a1.2.2)], .ag [.b a2.1, .sl (L a2.2.1), .sl (L a2.2.2)]] (.d (.b r)) := by
  unfold law02_RatOrders at h
  refine Fn.of (rs := [.tmp 6]) (nt := 56) Try.func7 rfl rfl rfl (by simp) rfl ?_
  refine .seq ?_
  refine .region ?_
  refine vk (vbx) ?_
  refine vk (vbx) ?_
  refine vk (vbx) ?_
  refine asd ?_
  refine rn ?_
  refine .gh (Gh.keep [3, 4, 5, 6] rfl) ?_
  refine .seq ?_
  refine .drawn 9 mixed (by kernel_rfl) ?_
  refine dv (vlda gA_R gS_R) ?_
  refine dv (vlda gA_R gS_R) ?_
  obtain ⟨x1, hx1, h⟩ := bnd h
  refine dv (vcl0 (rat_Compare_ok hx1) Try.call38) ?_
  refine dv (vlda gA_R gS_R) ?_
  refine dv (vlda gA_R gS_R) ?_
  obtain ⟨x2, hx2, h⟩ := bnd h
  refine dv (vcl0 (rat_Compare_ok hx2) Try.call38) ?_
  refine dv (vlda gA_R gS_R) ?_
  refine dv (vlda gA_R gS_R) ?_
  obtain ⟨x3, hx3, h⟩ := bnd h
  refine dv (vcl0 (rat_Compare_ok hx3) Try.call38) ?_
  refine dz ?_
  refine asd ?_
  refine asd ?_
  refine asd ?_
  refine rn ?_
  refine .gh (Gh.keep [3, 4, 5, 6, 7, 8, 9] rfl) ?_
  refine .seq ?_
  refine .seq ?_
  obtain ⟨x4, hx4, h⟩ := bnd h
  obtain ⟨z4, hz, h⟩ := bnd h
  refine AW.mr (σ := Unit) (fun _ => True) (fun _ => [(3, .d (.ptr [.b a0.1, .sl (L a0.2.1), .sl (L a0.2.2)])), (4, .d (.ptr [.b a1.1, .sl (L a1.2.1), .sl (L a1.2.2)])), (6, .d (.b false)), (7, .d (.i .i64 x1)), (8, .d (.i .i64 x2)), (9, .d (.i .i64 x3)), (31, .d (.b z4))]) (fun _ => []) ?_ ?_
  · skip
    refine .region ?_
    refine vk (vlda gA_R gS_R) ?_
    refine vk (vcl0 (ratRight_ok hx4) Try.call19) ?_
    refine vk (vnt) ?_
    by_cases hc : x4 = true
    · replace hz := ite_t hc hz
      have hb0 : (!x4) = false := (ntf hc)
      refine vk (VOK.lit (vmvd) hb0) ?_
      refine vk (vlda gA_R gS_R) ?_
      obtain ⟨x6, hx6, hz⟩ := bnd hz
      refine vk (vcl0 (ratRight_ok hx6) Try.call19) ?_
      refine vk (vnt) ?_
      refine vk (vpkd) ?_
      by_cases hc : x6 = true
      · replace hz := ite_t hc hz
        have hb1 : (!x6) = false := (ntf hc)
        refine vk (VOK.lit (vmvd) hb1) ?_
        refine vk (vlda gA_R gS_R) ?_
        obtain ⟨x7, hx7, hz⟩ := bnd hz
        refine vk (vcl0 (ratRight_ok hx7) Try.call19) ?_
        refine vk (vnt) ?_
        refine vk (vpkd) ?_
        refine RL.gh (Gh.keep [3, 4, 6, 7, 8, 9, 31] rfl) ?_
        refine .nil ?_
        cases hz
        exact jr () trivial
      replace hz := ite_f hc hz
      have hb1 : (!x6) = true := (ntt (bf hc))
      refine vk (VOK.lit (vmvd) hb1) ?_
      refine gf ?_
      refine gf ?_
      refine gf ?_
      refine vk (vpkd) ?_
      refine RL.gh (Gh.keep [3, 4, 6, 7, 8, 9, 31] rfl) ?_
      refine .nil ?_
      cases hz
      exact jr () trivial
    replace hz := ite_f hc hz
    have hb0 : (!x4) = true := (ntt (bf hc))
    refine vk (VOK.lit (vmvd) hb0) ?_
    refine gf ?_
    refine gf ?_
    refine gf ?_
    refine vk (vpkd) ?_
    refine vk (vmvd) ?_
    refine gf ?_
    refine gf ?_
    refine gf ?_
    refine vk (vpkd) ?_
    refine RL.gh (Gh.keep [3, 4, 6, 7, 8, 9, 31] rfl) ?_
    refine .nil ?_
    cases hz
    exact jr () trivial
  rintro _ _
  by_cases hc : z4 = true
  · replace h := ite_t hc h
    refine cnt hc ?_
    refine .seq ?_
    refine .region ?_
    obtain ⟨x8, hx8, h⟩ := bnd h
    refine vk (vcl0 (law02_live_ok hx8) Try.call15) ?_
    refine asd ?_
    refine rn ?_
    refine .gh (Gh.keep [3, 4, 6, 7, 8, 9] rfl) ?_
    refine .ret ?_
    cases h
    exact ⟨rfl, rfl⟩
  replace h := ite_f hc h
  refine cnf (bf hc) ?_
  refine .skip ?_
  show AW _ _ _ _ _ _
  refine .seq ?_
  obtain ⟨x9, hx9, h⟩ := bnd h
  obtain ⟨z9, hz, h⟩ := bnd h
  refine AW.mr (σ := Unit) (fun _ => True) (fun _ => [(6, .d (.b z9))]) (fun _ => []) ?_ ?_
  · skip
    refine .region ?_
    refine vk (vcl0 (law02_live_ok hx9) Try.call15) ?_
    by_cases hc : x9 = true
    · replace hz := ite_t hc hz
      have hb0 : x9 = true := hc
      refine vk (VOK.lit (vmvd) hb0) ?_
      refine vk (vmvd) ?_
      refine vk (vbi) ?_
      by_cases hc : x1 ≤ 0
      · replace hz := ite_t hc hz
        have hb1 : (decide (x1 ≤ 0)) = true := (decide_eq_true hc)
        refine vk (VOK.lit (vmvd) hb1) ?_
        refine vk (vmvd) ?_
        refine vk (vbi) ?_
        refine vk (vpkd) ?_
        refine vk (vnt) ?_
        by_cases hc : x2 ≤ 0
        · replace hz := ite_t hc hz
          have hb2 : (!(decide (x2 ≤ 0))) = false := (ntf (decide_eq_true hc))
          refine vk (VOK.lit (vmvd) hb2) ?_
          refine vk (vmvd) ?_
          refine vk (vbi) ?_
          refine vk (vpkd) ?_
          refine vk (vpkd) ?_
          by_cases hc : x3 ≤ 0
          · replace hz := ite_t hc hz
            have hb3 : (decide (x3 ≤ 0)) = true := (decide_eq_true hc)
            refine vk (VOK.lit (vmvd) hb3) ?_
            refine vk (vmvd) ?_
            refine vk (vbi) ?_
            by_cases hc : x1 = 0
            · replace hz := ite_t hc hz
              have hb4 : (!(decide (x1 = 0))) = false := (ntf (decide_eq_true hc))
              refine vk (VOK.lit (vmvd) hb4) ?_
              refine vk (vlda gA_R gS_R) ?_
              refine vk (vlda gA_R gS_R) ?_
              obtain ⟨x11, hx11, hz⟩ := bnd hz
              refine vk (vcl0 (ref2Same_ok hx11) Try.call25) ?_
              refine vk (vpkd) ?_
              refine vk (vpkd) ?_
              refine asd ?_
              refine RL.gh (Gh.keep [6] rfl) ?_
              refine .nil ?_
              cases hz
              exact jr () trivial
            replace hz := ite_f hc hz
            have hb4 : (!(decide (x1 = 0))) = true := (ntt (decide_eq_false hc))
            refine vk (VOK.lit (vmvd) hb4) ?_
            refine gf ?_
            refine gf ?_
            refine gf ?_
            refine vk (vpkd) ?_
            refine vk (vpkd) ?_
            refine asd ?_
            refine RL.gh (Gh.keep [6] rfl) ?_
            refine .nil ?_
            cases hz
            exact jr () trivial
          replace hz := ite_f hc hz
          have hb3 : (decide (x3 ≤ 0)) = false := (decide_eq_false hc)
          refine vk (VOK.lit (vmvd) hb3) ?_
          refine gf ?_
          refine gf ?_
          refine gfu ?_
          refine gf ?_
          refine gf ?_
          refine gf ?_
          refine gf ?_
          refine vk (vpkd) ?_
          refine asd ?_
          refine RL.gh (Gh.keep [6] rfl) ?_
          refine .nil ?_
          cases hz
          exact jr () trivial
        replace hz := ite_f hc hz
        have hb2 : (!(decide (x2 ≤ 0))) = true := (ntt (decide_eq_false hc))
        refine vk (VOK.lit (vmvd) hb2) ?_
        refine gf ?_
        refine gf ?_
        refine vk (vpkd) ?_
        refine vk (vpkd) ?_
        refine vk (vmvd) ?_
        refine vk (vmvd) ?_
        refine vk (vbi) ?_
        by_cases hc : x1 = 0
        · replace hz := ite_t hc hz
          have hb3 : (!(decide (x1 = 0))) = false := (ntf (decide_eq_true hc))
          refine vk (VOK.lit (vmvd) hb3) ?_
          refine vk (vlda gA_R gS_R) ?_
          refine vk (vlda gA_R gS_R) ?_
          obtain ⟨x12, hx12, hz⟩ := bnd hz
          refine vk (vcl0 (ref2Same_ok hx12) Try.call25) ?_
          refine vk (vpkd) ?_
          refine vk (vpkd) ?_
          refine asd ?_
          refine RL.gh (Gh.keep [6] rfl) ?_
          refine .nil ?_
          cases hz
          exact jr () trivial
        replace hz := ite_f hc hz
        have hb3 : (!(decide (x1 = 0))) = true := (ntt (decide_eq_false hc))
        refine vk (VOK.lit (vmvd) hb3) ?_
        refine gf ?_
        refine gf ?_
        refine gf ?_
        refine vk (vpkd) ?_
        refine vk (vpkd) ?_
        refine asd ?_
        refine RL.gh (Gh.keep [6] rfl) ?_
        refine .nil ?_
        cases hz
        exact jr () trivial
      replace hz := ite_f hc hz
      have hb1 : (decide (x1 ≤ 0)) = false := (decide_eq_false hc)
      refine vk (VOK.lit (vmvd) hb1) ?_
      refine gf ?_
      refine gf ?_
      refine vk (vpkd) ?_
      refine vk (vnt) ?_
      refine vk (vmvd) ?_
      refine gf ?_
      refine gf ?_
      refine vk (vpkd) ?_
      refine vk (vpkd) ?_
      refine vk (vmvd) ?_
      refine vk (vmvd) ?_
      refine vk (vbi) ?_
      by_cases hc : x1 = 0
      · replace hz := ite_t hc hz
        have hb2 : (!(decide (x1 = 0))) = false := (ntf (decide_eq_true hc))
        refine vk (VOK.lit (vmvd) hb2) ?_
        refine vk (vlda gA_R gS_R) ?_
        refine vk (vlda gA_R gS_R) ?_
        obtain ⟨x13, hx13, hz⟩ := bnd hz
        refine vk (vcl0 (ref2Same_ok hx13) Try.call25) ?_
        refine vk (vpkd) ?_
        refine vk (vpkd) ?_
        refine asd ?_
        refine RL.gh (Gh.keep [6] rfl) ?_
        refine .nil ?_
        cases hz
        exact jr () trivial
      replace hz := ite_f hc hz
      have hb2 : (!(decide (x1 = 0))) = true := (ntt (decide_eq_false hc))
      refine vk (VOK.lit (vmvd) hb2) ?_
      refine gf ?_
      refine gf ?_
      refine gf ?_
      refine vk (vpkd) ?_
      refine vk (vpkd) ?_
      refine asd ?_
      refine RL.gh (Gh.keep [6] rfl) ?_
      refine .nil ?_
      cases hz
      exact jr () trivial
    replace hz := ite_f hc hz
    have hb0 : x9 = false := (bf hc)
    refine vk (VOK.lit (vmvd) hb0) ?_
    refine gf ?_
    refine gf ?_
    refine gfu ?_
    refine gf ?_
    refine gf ?_
    refine gf ?_
    refine gf ?_
    refine gfu ?_
    refine gf ?_
    refine gf ?_
    refine gf ?_
    refine vk (vpkd) ?_
    refine vk (vmvd) ?_
    refine gf ?_
    refine gf ?_
    refine gfu ?_
    refine gf ?_
    refine gf ?_
    refine gf ?_
    refine gf ?_
    refine vk (vpkd) ?_
    refine asd ?_
    refine RL.gh (Gh.keep [6] rfl) ?_
    refine .nil ?_
    cases hz
    exact jr () trivial
  rintro _ _
  refine .ret ?_
  cases h
  exact ⟨rfl, rfl⟩
end Go.FL
/-
  GP: the law RatRounds.
-/
namespace Go.FL
open Go Go.Proofs

end Go.FL
/-
  Plain laws, rat 7: RatMakes, RatReckons, RatOrders, RatRounds.
-/
namespace Go.FL
open Go Go.Proofs

theorem ref2Same_eq {a c : RT} (h1 : a.2.1.length ≤ 35184372087808) (h2 : a.2.2.length ≤ 35184372087808) : ref2Same a c = some (decide (a = c)) := if_pos (by rw [decide_eq_true h1, decide_eq_true h2]; rfl)
theorem ref2Same_self {a : RT} (ha : okRB a = true) : ref2Same a a = some true := by
  obtain ⟨_, _, h1, h2⟩ := okRB_iff.1 ha
  rw [ref2Same_eq h1 h2]; simp
theorem cmp_le {p q : Rat} : cmpR p q ≤ 0 ↔ p ≤ q := by
  unfold cmpR
  by_cases h : p < q
  · rw [if_pos h]; simp [Rat.le_of_lt h]
  · rw [if_neg h]
    have h' := Rat.not_lt.1 h
    by_cases h2 : p = q
    · rw [if_pos h2]; simp [h2, Rat.le_refl]
    · rw [if_neg h2]
      constructor
      · intro h3; omega
      · intro h3; exact absurd (Rat.le_antisymm h3 h') h2
theorem cmp_eq {p q : Rat} : cmpR p q = 0 ↔ p = q := by
  unfold cmpR
  by_cases h : p < q
  · rw [if_pos h]; constructor
    · intro h; omega
    · rintro rfl; exact absurd h Rat.lt_irrefl
  · rw [if_neg h]
    by_cases h2 : p = q
    · rw [if_pos h2]; simp [h2]
    · rw [if_neg h2]; simp [h2]
theorem compare_cases {a b : RT} (ha : okRB a = true) (hb : okRB b = true) : ∃ n, rat_Compare a b = some n := by
  rcases two_cases (a := a) (b := b) with h | ⟨p, q, hp, hq, rfl, rfl⟩
  · exact ⟨_, compare_b ha hb h⟩
  · exact ⟨_, compare_q hp hq⟩
theorem lawOrders {a b c : RT} (ha : okRB a = true) (hb : okRB b = true) (hc : okRB c = true) : law02_RatOrders a b c = some true := by
  unfold law02_RatOrders
  obtain ⟨x, hx⟩ := compare_cases ha hb
  obtain ⟨y, hy⟩ := compare_cases hb hc
  obtain ⟨z, hz⟩ := compare_cases ha hc
  rw [hx, Option.bind_some, hy, Option.bind_some, hz, Option.bind_some, ratRight_eq ha, Option.bind_some]
  rcases right_cases (r := a) with h | ⟨p, hp, rfl⟩
  · rw [h, if_neg (by decide), Option.bind_some, if_pos rfl, live_eq]; rfl
  rw [ofQ_right hp, if_pos rfl, ratRight_eq hb, Option.bind_some]
  rcases right_cases (r := b) with h | ⟨q, hq, rfl⟩
  · rw [h, if_neg (by decide), Option.bind_some, if_pos rfl, live_eq]; rfl
  rw [ofQ_right hq, if_pos rfl, ratRight_eq hc, Option.bind_some]
  rcases right_cases (r := c) with h | ⟨s, hs, rfl⟩
  · rw [h, Option.bind_some, if_pos (by rfl), live_eq]; rfl
  rw [ofQ_right hs, Option.bind_some, if_neg (by decide), live_eq, Option.bind_some, if_pos rfl]
  rw [compare_q hp hq] at hx
  rw [compare_q hq hs] at hy
  rw [compare_q hp hs] at hz
  cases hx; cases hy; cases hz
  have last : (if cmpR p q = 0 then ((ref2Same (ofQ p) (ofQ q)).bind fun x11 => some x11) else some true) = some true := by
    by_cases h : cmpR p q = 0
    · rw [if_pos h, cmp_eq.1 h, ref2Same_self hb]; rfl
    · rw [if_neg h]
  rw [last]
  by_cases h1 : cmpR p q ≤ 0
  · rw [if_pos h1]
    by_cases h2 : cmpR q s ≤ 0
    · rw [if_pos h2, if_pos (cmp_le.2 (Rat.le_trans (cmp_le.1 h1) (cmp_le.1 h2)))]; rfl
    · rw [if_neg h2]; rfl
  · rw [if_neg h1]; rfl
end Go.FL
/-
  The statement RatOrdersSaid: for every input the law gives true, and each argument reads as it read before.
-/
namespace Go.Proofs.Ytijibkhkoopgpaa.ratOrders
open Go.ChangeShapes Go.WideShapes Go.ChangeAt Go.RowKit Go.FL

theorem own : ownKnob Try.prog.godebug = none := by kernel_rfl
theorem laid : laidOutB Try.prog = true := by kernel_rfl
theorem params : ∀ t ∈ Try.f7.params.toList, Try.prog.readableRec t = true ∧ t < Try.prog.types.size := by
  intro t ht
  simp only [Try.params7, List.mem_cons, List.not_mem_nil, or_false] at ht
  rcases ht with rfl | rfl | rfl <;> exact ⟨by kernel_rfl, of_decide_eq_true (by kernel_rfl)⟩
set_option maxRecDepth 100000 in
theorem lifted (os : Os) (started : os.Started) (H : Type) (enc : TypeId × Value → H) :
    ReturnsInHanded {} Try.checked os 7 .any (Rows.ratOrdersSpec.pre6 enc Try.prog Try.f7 Rows.ratOrdersRow.domain false) (Rows.ratOrdersSpec.post enc Try.prog Try.f7 false true false false) := by
  refine returnsInHanded_of_change_sized (C := Try.checked) own started (by kernel_rfl) Try.func7
    (ChangeSpec.witness6 (enc := enc) (C := Try.checked) false ⟨#[], #[.agg #[.bool false, .slice none 0 0, .slice none 0 0], .agg #[.bool false, .slice none 0 0, .slice none 0 0], .agg #[.bool false, .slice none 0 0, .slice none 0 0]], []⟩ 8 (by kernel_rfl) (by kernel_rfl) (by kernel_rfl) (by kernel_rfl)) ?_
  intro W base args ds gs before hval0 hW hcnd hsz _
  have hval : ∀ (j : Nat) t v, Try.f7.params[j]? = some t → args[j]? = some v → Value.okWide Try.prog W .any base t v := hval0
  have hW' := hW
  obtain ⟨p, q, hA0, hV, rfl, hfz, hnd⟩ := hW
  have hA : DataW.TrodAll enc Try.prog W 0 (fun _ => true) true Try.f7.params.toList args.toList ds p := hA0
  rw [Try.params7] at hA hval
  obtain ⟨v0, vs0, d0, ds0, p0, q0, hargs, rfl, rfl, h0, r0⟩ := trodAll_cons hA
  obtain ⟨v1, vs1, d1, ds1, p1, q1, rfl, rfl, rfl, h1, r1⟩ := trodAll_cons r0
  obtain ⟨v2, vs2, d2, ds2, p2, q2, rfl, rfl, rfl, h2, r2⟩ := trodAll_cons r1
  obtain ⟨rfl, rfl, rfl⟩ := trodAll_nil r2
  obtain rfl : args = #[v0, v1, v2] := by cases args; simp_all
  obtain ⟨rfl, rfl⟩ := trodVars_none hV
  rw [Try.params7] at hsz
  have w0 : ∀ m ∈ DataW.weights Try.prog 25 d0, m ≤ reachBytes := fun m hm => by simpa using List.all_eq_true.1 hsz m (DataW.weights_mem_each (j := 0) rfl rfl m hm)
  obtain ⟨a0, o0, e0⟩ := arg_agg (v := v0) op_rat (let ⟨cs, h, _⟩ := okWide_struct (P := Try.prog) Try.underlying25 (hval 0 25 v0 rfl rfl); ⟨cs, h⟩) h0 w0
  have w1 : ∀ m ∈ DataW.weights Try.prog 25 d1, m ≤ reachBytes := fun m hm => by simpa using List.all_eq_true.1 hsz m (DataW.weights_mem_each (j := 1) rfl rfl m hm)
  obtain ⟨a1, o1, e1⟩ := arg_agg (v := v1) op_rat (let ⟨cs, h, _⟩ := okWide_struct (P := Try.prog) Try.underlying25 (hval 1 25 v1 rfl rfl); ⟨cs, h⟩) h1 w1
  have w2 : ∀ m ∈ DataW.weights Try.prog 25 d2, m ≤ reachBytes := fun m hm => by simpa using List.all_eq_true.1 hsz m (DataW.weights_mem_each (j := 2) rfl rfl m hm)
  obtain ⟨a2, o2, e2⟩ := arg_agg (v := v2) op_rat (let ⟨cs, h, _⟩ := okWide_struct (P := Try.prog) Try.underlying25 (hval 2 25 v2 rfl rfl); ⟨cs, h⟩) h2 w2
  refine (law_calls (law02_RatOrders_ok (lawOrders o0 o1 o2)) (.cons e0 (.cons e1 (.cons e2 .nil)))).mono fun e W' ⟨he, hb⟩ => ?_
  subst he
  exact ⟨_, rfl, post_law hW' rfl (fun _ => rfl) rfl Try.underlying4 laid params hb⟩

theorem over : Rows.ratOrdersRow.holds Try.pinned (OpenSpec.ofChange Rows.ratOrdersSpec) :=
  OpenClaim.holds_of_wide 7 Try.f7 rfl rfl rfl rfl rfl rfl rfl ⟨rfl, rfl, rfl, rfl, rfl⟩ rfl rfl rfl rfl rfl (by kernel_rfl) Try.func7 (by kernel_rfl)
    (of_decide_eq_true (by kernel_rfl)) (by unfold Func.isWrapper; first | (rw [if_pos (by decide +kernel)]; kernel_rfl) | (rw [if_neg (by decide +kernel)]; exact ⟨rfl, rfl⟩))
    (fun os started H enc _ => lifted os started H enc)

theorem proved : Rows.RatOrdersSaid :=
  over
end Go.Proofs.Ytijibkhkoopgpaa.ratOrders
