/-
  The law: its function printed as a pure function, its contract, the plain law, the statement
-/
import Derived.Test.YtcoofpnbnifbbaaArE
import Derived.Test.YtcoofpnbnifbbaaRows
set_option linter.unusedVariables false
/-
  GP: the law ArrayBack.
-/
namespace Go.FL
open Go Go.Proofs

end Go.FL
/-
  GP: the law ArrayDeeper.
-/
namespace Go.FL
open Go Go.Proofs

def law03_ArrayDeeper (a0 : Arr) : Option (Bool) := ((array_Right a0).bind fun x1 => (Option.bind ((if x1 = true then ((array_IsSimple a0).bind fun x3 => (if x3 = true then (some true) else ((array_Depth a0).bind fun x4 => (if 16 ≤ x4 then (some true) else ((array_Cells a0).bind fun x5 => (some (decide (16384 ≤ x5)))))))) else (some true)) : Option (Bool)) fun (z1 : Bool) => (if z1 = true then (law03_live.bind fun x6 => (some (x6))) else ((array_Enclose a0).bind fun x7 => ((array_Make ([1]) ([x7])).bind fun x8 => (law03_live.bind fun x9 => (Option.bind ((if x9 = true then (if x8.2 = 0 then ((array_Depth x8.1).bind fun x11 => ((array_Depth a0).bind fun x12 => (if x11 = (w64 (x12 + 1)) then ((array_Cells x8.1).bind fun x13 => ((array_Cells a0).bind fun x14 => (some (decide (x13 = (w64 (x14 + 1))))))) else (some false)))) else (some false)) else (some false)) : Option (Bool)) fun (z9 : Bool) => (some (z9)))))))))
theorem law03_ArrayDeeper_ok {a0 : Arr} {r : Bool} (h : law03_ArrayDeeper a0 = some r) :
    Fn Try.prog 3 [.ag [.sl (Is a0.shape), .sl (Its a0.items)]] (.d (.b r)) := by
  unfold law03_ArrayDeeper at h
  refine Fn.of (rs := [.tmp 2]) (nt := 52) Try.func3 rfl rfl rfl (by simp) rfl ?_
  refine .seq ?_
  refine .region ?_
  refine vk (vbx) ?_
  refine asd ?_
  refine rn ?_
  refine .gh (Gh.keep [1, 2] rfl) ?_
  refine .seq ?_
  refine .seq ?_
  obtain ⟨x1, hx1, h⟩ := bnd h
  obtain ⟨z1, hz, h⟩ := bnd h
  refine AW.mr (σ := Unit) (fun _ => True) (fun _ => [(1, .d (.ptr [.sl (Is a0.shape), .sl (Its a0.items)])), (2, .d (.b false)), (21, .d (.b z1))]) (fun _ => []) ?_ ?_
  · skip
    refine .region ?_
    refine vk (vlda gA_Arr gS_Arr) ?_
    refine vk (vcl0 (array_Right_ok hx1) Try.call12) ?_
    refine vk (vnt) ?_
    by_cases hc : x1 = true
    · replace hz := ite_t hc hz
      have hb0 : (!x1) = false := (ntf hc)
      refine vk (VOK.lit (vmvd) hb0) ?_
      refine vk (vlda gA_Arr gS_Arr) ?_
      obtain ⟨x3, hx3, hz⟩ := bnd hz
      refine vk (vcl0 (array_IsSimple_ok hx3) Try.call13) ?_
      refine vk (vpkd) ?_
      by_cases hc : x3 = true
      · replace hz := ite_t hc hz
        have hb1 : x3 = true := hc
        refine vk (VOK.lit (vmvd) hb1) ?_
        refine gf ?_
        refine gf ?_
        refine gf ?_
        refine vk (vpkd) ?_
        refine vk (vmvd) ?_
        refine gf ?_
        refine gf ?_
        refine gf ?_
        refine vk (vpkd) ?_
        refine RL.gh (Gh.keep [1, 2, 21] rfl) ?_
        refine .nil ?_
        cases hz
        exact jr () trivial
      replace hz := ite_f hc hz
      have hb1 : x3 = false := (bf hc)
      refine vk (VOK.lit (vmvd) hb1) ?_
      refine vk (vlda gA_Arr gS_Arr) ?_
      obtain ⟨x4, hx4, hz⟩ := bnd hz
      refine vk (vcl0 (array_Depth_ok hx4) Try.call14) ?_
      refine vk (vbi) ?_
      refine vk (vpkd) ?_
      by_cases hc : 16 ≤ x4
      · replace hz := ite_t hc hz
        have hb2 : (decide (16 ≤ x4)) = true := (decide_eq_true hc)
        refine vk (VOK.lit (vmvd) hb2) ?_
        refine gf ?_
        refine gf ?_
        refine gf ?_
        refine vk (vpkd) ?_
        refine RL.gh (Gh.keep [1, 2, 21] rfl) ?_
        refine .nil ?_
        cases hz
        exact jr () trivial
      replace hz := ite_f hc hz
      have hb2 : (decide (16 ≤ x4)) = false := (decide_eq_false hc)
      refine vk (VOK.lit (vmvd) hb2) ?_
      refine vk (vlda gA_Arr gS_Arr) ?_
      obtain ⟨x5, hx5, hz⟩ := bnd hz
      refine vk (vcl0 (array_Cells_ok hx5) Try.call15) ?_
      refine vk (vbi) ?_
      refine vk (vpkd) ?_
      refine RL.gh (Gh.keep [1, 2, 21] rfl) ?_
      refine .nil ?_
      cases hz
      exact jr () trivial
    replace hz := ite_f hc hz
    have hb0 : (!x1) = true := (ntt (bf hc))
    refine vk (VOK.lit (vmvd) hb0) ?_
    refine gf ?_
    refine gf ?_
    refine vk (vpkd) ?_
    refine vk (vmvd) ?_
    refine gf ?_
    refine gf ?_
    refine gf ?_
    refine vk (vpkd) ?_
    refine vk (vmvd) ?_
    refine gf ?_
    refine gf ?_
    refine gf ?_
    refine vk (vpkd) ?_
    refine RL.gh (Gh.keep [1, 2, 21] rfl) ?_
    refine .nil ?_
    cases hz
    exact jr () trivial
  rintro _ _
  by_cases hc : z1 = true
  · replace h := ite_t hc h
    refine cnt hc ?_
    refine .seq ?_
    refine .region ?_
    obtain ⟨x6, hx6, h⟩ := bnd h
    refine vk (vcl0 (law03_live_ok hx6) Try.call16) ?_
    refine asd ?_
    refine rn ?_
    refine .gh (Gh.keep [1, 2] rfl) ?_
    refine .ret ?_
    cases h
    exact ⟨rfl, rfl⟩
  replace h := ite_f hc h
  refine cnf (bf hc) ?_
  refine .skip ?_
  show AW _ _ _ _ _ _
  refine .seq ?_
  refine .region ?_
  refine vk ((vbsl (Is_flat [1]) ge_Is).deep) ?_
  refine vk (vlda gA_Arr gS_Arr) ?_
  obtain ⟨x7, hx7, h⟩ := bnd h
  refine vk (vcl0 (array_Enclose_ok hx7) Try.call18) ?_
  refine vk ((vbslE (Its_bs1 x7) (Its_flat [x7]) ge_Its).deep) ?_
  obtain ⟨x8, hx8, h⟩ := bnd h
  refine vk (VOK.tupd (vs := [.ag [.sl (Is x8.1.shape), .sl (Its x8.1.items)], .i .i64 x8.2]) (vcl0 (array_Make_ok hx8) Try.call17)) ?_
  refine vk (vmvd) ?_
  refine vk (vex) ?_
  refine vk (vex) ?_
  refine vk (van (zero_of gI_Arr) gZ_Arr) ?_
  refine stn ?_ gS_Arr (by decide)
  refine asd ?_
  refine rn ?_
  refine .gh (Gh.keep [1, 2, 3, 4] rfl) ?_
  refine .seq ?_
  obtain ⟨x9, hx9, h⟩ := bnd h
  obtain ⟨z9, hz, h⟩ := bnd h
  refine AW.mr (σ := Unit) (fun _ => True) (fun _ => [(2, .d (.b z9))]) (fun _ => []) ?_ ?_
  · skip
    refine .drawn 21 mixed (by kernel_rfl) ?_
    refine dv (vcl0 (law03_live_ok hx9) Try.call16) ?_
    by_cases hc : x9 = true
    · replace hz := ite_t hc hz
      have hb0 : x9 = true := hc
      refine dv (VOK.lit (vmvd) hb0) ?_
      refine dv (vmvd) ?_
      refine dv (vbi) ?_
      refine dv (vpkd) ?_
      by_cases hc : x8.2 = 0
      · replace hz := ite_t hc hz
        have hb1 : (decide (x8.2 = 0)) = true := (decide_eq_true hc)
        refine dv (VOK.lit (vmvd) hb1) ?_
        refine dv (vldn gA_Arr gS_Arr) ?_
        obtain ⟨x11, hx11, hz⟩ := bnd hz
        refine dv (vcl0 (array_Depth_ok hx11) Try.call14) ?_
        refine dv (vlda gA_Arr gS_Arr) ?_
        obtain ⟨x12, hx12, hz⟩ := bnd hz
        refine dv (vcl0 (array_Depth_ok hx12) Try.call14) ?_
        refine dv (vbi) ?_
        refine dv (vbi) ?_
        refine dv (vpkd) ?_
        by_cases hc : x11 = (w64 (x12 + 1))
        · replace hz := ite_t hc hz
          have hb2 : (decide (x11 = (w64 (x12 + 1)))) = true := (decide_eq_true hc)
          refine dv (VOK.lit (vmvd) hb2) ?_
          refine dv (vldn gA_Arr gS_Arr) ?_
          obtain ⟨x13, hx13, hz⟩ := bnd hz
          refine dv (vcl0 (array_Cells_ok hx13) Try.call15) ?_
          refine dv (vlda gA_Arr gS_Arr) ?_
          obtain ⟨x14, hx14, hz⟩ := bnd hz
          refine dv (vcl0 (array_Cells_ok hx14) Try.call15) ?_
          refine dv (vbi) ?_
          refine dv (vbi) ?_
          refine dv (vpkd) ?_
          refine dz ?_
          refine asd ?_
          refine RL.gh (Gh.keep [2] rfl) ?_
          refine .nil ?_
          cases hz
          exact jr () trivial
        replace hz := ite_f hc hz
        have hb2 : (decide (x11 = (w64 (x12 + 1)))) = false := (decide_eq_false hc)
        refine dv (VOK.lit (vmvd) hb2) ?_
        refine dgf ?_
        refine dgf ?_
        refine dgf ?_
        refine dgf ?_
        refine dgf ?_
        refine dgf ?_
        refine dv (vpkd) ?_
        refine dz ?_
        refine asd ?_
        refine RL.gh (Gh.keep [2] rfl) ?_
        refine .nil ?_
        cases hz
        exact jr () trivial
      replace hz := ite_f hc hz
      have hb1 : (decide (x8.2 = 0)) = false := (decide_eq_false hc)
      refine dv (VOK.lit (vmvd) hb1) ?_
      refine dgf ?_
      refine dgf ?_
      refine dgf ?_
      refine dgf ?_
      refine dgf ?_
      refine dgf ?_
      refine dv (vpkd) ?_
      refine dv (vmvd) ?_
      refine dgf ?_
      refine dgf ?_
      refine dgf ?_
      refine dgf ?_
      refine dgf ?_
      refine dgf ?_
      refine dv (vpkd) ?_
      refine dz ?_
      refine asd ?_
      refine RL.gh (Gh.keep [2] rfl) ?_
      refine .nil ?_
      cases hz
      exact jr () trivial
    replace hz := ite_f hc hz
    have hb0 : x9 = false := (bf hc)
    refine dv (VOK.lit (vmvd) hb0) ?_
    refine dgf ?_
    refine dgf ?_
    refine dv (vpkd) ?_
    refine dv (vmvd) ?_
    refine dgf ?_
    refine dgf ?_
    refine dgf ?_
    refine dgf ?_
    refine dgf ?_
    refine dgf ?_
    refine dv (vpkd) ?_
    refine dv (vmvd) ?_
    refine dgf ?_
    refine dgf ?_
    refine dgf ?_
    refine dgf ?_
    refine dgf ?_
    refine dgf ?_
    refine dv (vpkd) ?_
    refine dz ?_
    refine asd ?_
    refine RL.gh (Gh.keep [2] rfl) ?_
    refine .nil ?_
    cases hz
    exact jr () trivial
  rintro _ _
  refine .ret ?_
  cases h
  exact ⟨rfl, rfl⟩
end Go.FL
/-
  GP: the law ArrayInts.
-/
namespace Go.FL
open Go Go.Proofs

end Go.FL
/-
  GP: the law ArraySimple.
-/
namespace Go.FL
open Go Go.Proofs

end Go.FL
/-
  Plain laws of arrays, 6: the document's way; the four laws.
-/
namespace Go.FL
open Go Go.Proofs

theorem box_right {a : Arr} (h : RightA a) (hs : simpleB a = false) : RightI (.mk 3 (false, [], []) 0 [a]) ∧ dI (.mk 3 (false, [], []) 0 [a]) = dA a ∧ cI (.mk 3 (false, [], []) 0 [a]) = cA a := by
  have e1 : dI (.mk 3 (false, [], []) 0 [a]) = dA a := by simp [dI, dBs]
  have e2 : cI (.mk 3 (false, [], []) 0 [a]) = cA a := by simp [cI, cBs]
  exact ⟨⟨rI_box h.1 hs, by rw [e1]; exact h.2.1, by rw [e2]; exact h.2.2⟩, e1, e2⟩
theorem or_bind {p : Prop} [Decidable p] {m : Option Int} {v : Int} (h : m = some v) {β : Type} (f : Bool → Option β) : Option.bind (if p then some true else m.bind fun x => some (decide (16384 ≤ x))) f = f (decide (p ∨ 16384 ≤ v)) := by
  by_cases hp : p
  · rw [if_pos hp, Option.bind_some, decide_eq_true (.inl hp)]
  · rw [if_neg hp, h, Option.bind_some, Option.bind_some]
    congr 1
    exact decide_eq_decide.2 ⟨.inr, fun h => h.elim (fun h => absurd h hp) id⟩
theorem lawDeeper {a : Arr} (ha : okAr a) : law03_ArrayDeeper a = some true := by
  unfold law03_ArrayDeeper
  rw [Right_eq ha, Option.bind_some]
  by_cases hr : RightA a
  rotate_left
  · rw [decide_eq_false hr, if_neg (by decide), Option.bind_some, if_pos rfl, live3]; rfl
  rw [decide_eq_true hr, if_pos rfl]
  have hsi : array_IsSimple a = some (simpleB a) := by
    unfold array_IsSimple
    rw [Right_eq ha, Option.bind_some, decide_eq_true hr, if_pos rfl, isSimple_eq]; rfl
  rw [hsi, Option.bind_some]
  by_cases hs : simpleB a = true
  · rw [if_pos hs, Option.bind_some, if_pos rfl, live3]; rfl
  have hs' : simpleB a = false := by simpa using hs
  have hD : array_Depth a = some ((dA a : Nat) : Int) := by rw [Depth_eq ha, if_pos hr]
  have hC : array_Cells a = some ((cA a : Nat) : Int) := by rw [Cells_eq ha, if_pos hr]
  rw [if_neg hs, hD, Option.bind_some, or_bind hC]
  by_cases hb : (16 : Int) ≤ ((dA a : Nat) : Int) ∨ (16384 : Int) ≤ ((cA a : Nat) : Int)
  · rw [decide_eq_true hb, if_pos rfl, live3]; rfl
  rw [decide_eq_false hb, if_neg (by decide), Enclose_eq ha hr, if_neg hs, Option.bind_some]
  obtain ⟨hx, e1, e2⟩ := box_right hr hs'
  have hxo := okI_box ha
  generalize hxe : Itm.mk 3 (false, [], []) 0 [a] = x at *
  have hs1 : szP [1] = (1, 0) := szP_one (n := 1) (by omega)
  have hmi : mkItems 1 [x] = [x] := rfl
  have hsx : simpleB (.mk [1] [x]) = false := rfl
  have hd : dA (.mk [1] [x]) = dA a + 1 := by rw [dA_eq, hsx, if_neg (by decide), it_mk]; simp only [dIs, e1]; omega
  have hc : cA (.mk [1] [x]) = cA a + 1 := by rw [cA_eq, it_mk]; simp only [cIs, e2, List.length_cons, List.length_nil]; omega
  have hm : RightA (.mk [1] [x]) := by
    refine ⟨?_, by rw [hd]; omega, by rw [hc]; omega⟩
    rw [rA_eq, sh_mk, it_mk, hs1]; simp [rIs, hx.1]
  have hmo : okAr (.mk [1] [x]) := by
    rw [okAr_iff, sh_mk, it_mk]
    exact ⟨fun z hz => by rw [List.mem_singleton] at hz; omega, by simp, by simp, fun y hy => by rw [List.mem_singleton] at hy; rw [hy]; exact hxo⟩
  have hmake : array_Make [1] [x] = some (.mk [1] [x], 0) := by
    rw [Make_eq (fun z hz => by rw [List.mem_singleton] at hz; omega) (by simp) (by simp) (fun y hy => by rw [List.mem_singleton] at hy; rw [hy]; exact hxo), hs1, if_neg (by decide), if_neg, hmi, if_pos hm]
    rintro (q | q)
    · cases q
    · exact q fun y hy => by rw [List.mem_singleton] at hy; rw [hy]; exact hx
  rw [hmake, Option.bind_some, live3, Option.bind_some, if_pos rfl, if_pos rfl, Depth_eq hmo, if_pos hm, Option.bind_some, Option.bind_some, hd, w64_eq (by omega) (by have := hr.2.1; omega), if_pos (by omega), Cells_eq hmo, if_pos hm, Option.bind_some, hC, Option.bind_some, hc, w64_eq (by omega) (by have := hr.2.2; omega),
    decide_eq_true (by omega)]
  rfl

end Go.FL
/-
  The statement ArrayDeeperSaid: for every input the law gives true, and each argument reads as it read before.
-/
namespace Go.Proofs.Ytcoofpnbnifbbaa.arrayDeeper
open Go.ChangeShapes Go.WideShapes Go.ChangeAt Go.RowKit Go.FL

theorem own : ownKnob Try.prog.godebug = none := by kernel_rfl
theorem laid : laidOutB Try.prog = true := by kernel_rfl
theorem params : ∀ t ∈ Try.f3.params.toList, Try.prog.readableRec t = true ∧ t < Try.prog.types.size := by
  intro t ht
  simp only [Try.params3, List.mem_cons, List.not_mem_nil, or_false] at ht
  rcases ht with rfl <;> exact ⟨by kernel_rfl, of_decide_eq_true (by kernel_rfl)⟩
set_option maxRecDepth 100000 in
theorem lifted (os : Os) (started : os.Started) (H : Type) (enc : TypeId × Value → H) :
    ReturnsInHanded {} Try.checked os 3 .any (Rows.arrayDeeperSpec.pre6 enc Try.prog Try.f3 Rows.arrayDeeperRow.domain false) (Rows.arrayDeeperSpec.post enc Try.prog Try.f3 false true false false) := by
  refine returnsInHanded_of_change_sized (C := Try.checked) own started (by kernel_rfl) Try.func3
    (ChangeSpec.witness6 (enc := enc) (C := Try.checked) false ⟨#[], #[.agg #[.slice none 0 0, .slice none 0 0]], []⟩ 8 (by kernel_rfl) (by kernel_rfl) (by kernel_rfl) (by kernel_rfl)) ?_
  intro W base args ds gs before hval0 hW hcnd hsz _
  have hval : ∀ (j : Nat) t v, Try.f3.params[j]? = some t → args[j]? = some v → Value.okWide Try.prog W .any base t v := hval0
  have hW' := hW
  obtain ⟨p, q, hA0, hV, rfl, hfz, hnd⟩ := hW
  have hA : DataW.TrodAll enc Try.prog W 0 (fun _ => true) true Try.f3.params.toList args.toList ds p := hA0
  rw [Try.params3] at hA hval
  obtain ⟨v0, vs0, d0, ds0, p0, q0, hargs, rfl, rfl, h0, r0⟩ := trodAll_cons hA
  obtain ⟨rfl, rfl, rfl⟩ := trodAll_nil r0
  obtain rfl : args = #[v0] := by cases args; simp_all
  obtain ⟨rfl, rfl⟩ := trodVars_none hV
  rw [Try.params3] at hsz
  have w0 : ∀ m ∈ DataW.weights Try.prog 25 d0, m ≤ reachBytes := fun m hm => by simpa using List.all_eq_true.1 hsz m (DataW.weights_mem_each (j := 0) rfl rfl m hm)
  obtain ⟨a0, o0, e0⟩ := arg_agg (v := v0) op_arr (let ⟨cs, h, _⟩ := okWide_struct (P := Try.prog) Try.underlying25 (hval 0 25 v0 rfl rfl); ⟨cs, h⟩) h0 w0
  refine (law_calls (law03_ArrayDeeper_ok (lawDeeper o0)) (.cons e0 .nil)).mono fun e W' ⟨he, hb⟩ => ?_
  subst he
  exact ⟨_, rfl, post_law hW' rfl (fun _ => rfl) rfl Try.underlying4 laid params hb⟩

theorem over : Rows.arrayDeeperRow.holds Try.pinned (OpenSpec.ofChange Rows.arrayDeeperSpec) :=
  OpenClaim.holds_of_wide 3 Try.f3 rfl rfl rfl rfl rfl rfl rfl ⟨rfl, rfl, rfl, rfl, rfl⟩ rfl rfl rfl rfl rfl (by kernel_rfl) Try.func3 (by kernel_rfl)
    (of_decide_eq_true (by kernel_rfl)) (by unfold Func.isWrapper; first | (rw [if_pos (by decide +kernel)]; kernel_rfl) | (rw [if_neg (by decide +kernel)]; exact ⟨rfl, rfl⟩))
    (fun os started H enc _ => lifted os started H enc)

theorem proved : Rows.ArrayDeeperSaid :=
  over
end Go.Proofs.Ytcoofpnbnifbbaa.arrayDeeper
