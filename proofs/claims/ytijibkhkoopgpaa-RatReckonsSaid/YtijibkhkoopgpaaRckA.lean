/-
  The law: its function printed as a pure function, its contract, the plain law, the statement
-/
import Derived.Test.YtijibkhkoopgpaaRbE
import Derived.Test.YtijibkhkoopgpaaRows
set_option linter.unusedVariables false
/-
  GP: the law RatMakes.
-/
namespace Go.FL
open Go Go.Proofs

end Go.FL
/-
  GP: the law RatReckons.
-/
namespace Go.FL
open Go Go.Proofs

def law02_RatReckons (a0 : RT) (a1 : RT) (a2 : RT) : Option (Bool) := ((ref02_Copy a0).bind fun x1 => ((ref02_Copy a1).bind fun x2 => ((ratAdd ([x1, x2, a2])).bind fun x3 => ((ref02_Add ([a0, a1, a2])).bind fun x4 => (law02_live.bind fun x5 => (Option.bind ((if x5 = true then ((law02_same x3.1 x3.2 x4.1 x4.2).bind fun x7 => (some (!x7))) else (some true)) : Option (Bool)) fun (z5 : Bool) => (if z5 = true then (some (false)) else ((ratMul ([x1, x2, a2])).bind fun x8 => ((ref02_Mul ([a0, a1, a2])).bind fun x9 => ((law02_same x8.1 x8.2 x9.1 x9.2).bind fun x10 => (if x10 = true then ((rat_Sub x1 x2).bind fun x11 => ((ref02_Sub a0 a1).bind fun x12 => ((law02_same x11.1 x11.2 x12.1 x12.2).bind fun x13 => (if x13 = true then ((rat_Div x1 x2).bind fun x14 => ((ref02_Div a0 a1).bind fun x15 => ((law02_same x14.1 x14.2 x15.1 x15.2).bind fun x16 => (Option.bind ((if x16 = true then ((ref2Same x1 a0).bind fun x18 => (if x18 = true then ((ref2Same x2 a1).bind fun x19 => (some x19)) else (some false))) else (some false)) : Option (Bool)) fun (z16 : Bool) => (some (z16)))))) else (some (false)))))) else (some (false)))))))))))))
theorem law02_RatReckons_ok {a0 : RT} {a1 : RT} {a2 : RT} {r : Bool} (h : law02_RatReckons a0 a1 a2 = some r) :
    Fn Try.prog 9 [.ag [.b a0.1, .sl (L a0.2.1), .sl (L a0.2.2)], .ag [.b a1.1, .sl (L a1.2.1), .sl (L a1.2.2)], .ag [.b a2.1, .sl (L a2.2.1), .sl (L a2.2.2)]] (.d (.b r)) := by
  unfold law02_RatReckons at h
  refine Fn.of (rs := [.tmp 6]) (nt := 110) Try.func9 rfl rfl rfl (by simp) rfl ?_
  refine .seq ?_
  refine .region ?_
  refine vk (vbx) ?_
  refine vk (vbx) ?_
  refine vk (vbx) ?_
  refine asd ?_
  refine rn ?_
  refine .gh (Gh.keep [3, 4, 5, 6] rfl) ?_
  refine .seq ?_
  refine .drawn 6 mixed (by kernel_rfl) ?_
  refine dv (vlda gA_R gS_R) ?_
  obtain ⟨x1, hx1, h⟩ := bnd h
  refine dv (vcl0 (ref02_Copy_ok hx1) Try.call40) ?_
  refine dv (vlda gA_R gS_R) ?_
  obtain ⟨x2, hx2, h⟩ := bnd h
  refine dv (vcl0 (ref02_Copy_ok hx2) Try.call40) ?_
  refine dv (van (zero_of gI_R) gZ_R) ?_
  refine dv (van (zero_of gI_R) gZ_R) ?_
  refine dz ?_
  refine stn ?_ gS_R (by decide)
  refine stn ?_ gS_R (by decide)
  refine rn ?_
  refine .gh (Gh.keep [3, 4, 5, 6, 7, 8] rfl) ?_
  refine .seq ?_
  refine .region ?_
  refine vk (vldn gA_R gS_R) ?_
  refine vk (vldn gA_R gS_R) ?_
  refine vk (vlda gA_R gS_R) ?_
  refine vk ((vbsl (RVs_flat [x1, x2, a2]) ge_RVs).deep) ?_
  obtain ⟨x3, hx3, h⟩ := bnd h
  refine vk (VOK.tupd (vs := [.ag [.b x3.1.1, .sl (L x3.1.2.1), .sl (L x3.1.2.2)], .i .i64 x3.2]) (vcl0 (ratAdd_ok hx3) Try.call34)) ?_
  refine vk (vmvd) ?_
  refine vk (vex) ?_
  refine vk (vex) ?_
  refine vk (van (zero_of gI_R) gZ_R) ?_
  refine stn ?_ gS_R (by decide)
  refine asd ?_
  refine rn ?_
  refine .gh (Gh.keep [3, 4, 5, 6, 7, 8, 9, 10] rfl) ?_
  refine .seq ?_
  refine .region ?_
  refine vk (vlda gA_R gS_R) ?_
  refine vk (vlda gA_R gS_R) ?_
  refine vk (vlda gA_R gS_R) ?_
  refine vk ((vbsl (RVs_flat [a0, a1, a2]) ge_RVs).deep) ?_
  obtain ⟨x4, hx4, h⟩ := bnd h
  refine vk (VOK.tupd (vs := [.ag [.b x4.1.1, .sl (L x4.1.2.1), .sl (L x4.1.2.2)], .i .i64 x4.2]) (vcl0 (ref02_Add_ok hx4) Try.call41)) ?_
  refine vk (vmvd) ?_
  refine vk (vex) ?_
  refine vk (vex) ?_
  refine vk (van (zero_of gI_R) gZ_R) ?_
  refine stn ?_ gS_R (by decide)
  refine asd ?_
  refine rn ?_
  refine .gh (Gh.keep [3, 4, 5, 6, 7, 8, 9, 10, 11, 12] rfl) ?_
  refine .seq ?_
  refine .seq ?_
  obtain ⟨x5, hx5, h⟩ := bnd h
  obtain ⟨z5, hz, h⟩ := bnd h
  refine AW.mr (σ := Unit) (fun _ => True) (fun _ => [(3, .d (.ptr [.b a0.1, .sl (L a0.2.1), .sl (L a0.2.2)])), (4, .d (.ptr [.b a1.1, .sl (L a1.2.1), .sl (L a1.2.2)])), (5, .d (.ptr [.b a2.1, .sl (L a2.2.1), .sl (L a2.2.2)])), (6, .d (.b false)), (7, .nb [.b x1.1, .sl (L x1.2.1), .sl (L x1.2.2)]), (8, .nb [.b x2.1, .sl (L x2.2.1), .sl (L x2.2.2)]), (9, .nb [.b x3.1.1, .sl (L x3.1.2.1), .sl (L x3.1.2.2)]), (11, .nb [.b x4.1.1, .sl (L x4.1.2.1), .sl (L x4.1.2.2)]), (42, .d (.b z5))]) (fun _ => []) ?_ ?_
  · skip
    refine .region ?_
    refine vk (vcl0 (law02_live_ok hx5) Try.call15) ?_
    refine vk (vnt) ?_
    by_cases hc : x5 = true
    · replace hz := ite_t hc hz
      have hb0 : (!x5) = false := (ntf hc)
      refine vk (VOK.lit (vmvd) hb0) ?_
      refine vk (vldn gA_R gS_R) ?_
      refine vk (vmvd) ?_
      refine vk (vldn gA_R gS_R) ?_
      refine vk (vmvd) ?_
      obtain ⟨x7, hx7, hz⟩ := bnd hz
      refine vk (vcl0 (law02_same_ok hx7) Try.call18) ?_
      refine vk (vnt) ?_
      refine vk (vpkd) ?_
      refine RL.gh (Gh.keep [3, 4, 5, 6, 7, 8, 9, 11, 42] rfl) ?_
      refine .nil ?_
      cases hz
      exact jr () trivial
    replace hz := ite_f hc hz
    have hb0 : (!x5) = true := (ntt (bf hc))
    refine vk (VOK.lit (vmvd) hb0) ?_
    refine gf ?_
    refine gf ?_
    refine gf ?_
    refine gf ?_
    refine gf ?_
    refine gf ?_
    refine vk (vpkd) ?_
    refine RL.gh (Gh.keep [3, 4, 5, 6, 7, 8, 9, 11, 42] rfl) ?_
    refine .nil ?_
    cases hz
    exact jr () trivial
  rintro _ _
  by_cases hc : z5 = true
  · replace h := ite_t hc h
    refine cnt hc ?_
    refine .seq ?_
    refine .region ?_
    refine asd ?_
    refine rn ?_
    refine .gh (Gh.keep [3, 4, 5, 6, 7, 8, 9, 11] rfl) ?_
    refine .ret ?_
    cases h
    exact ⟨rfl, rfl⟩
  replace h := ite_f hc h
  refine cnf (bf hc) ?_
  refine .skip ?_
  show AW _ _ _ _ _ _
  refine .seq ?_
  refine .region ?_
  refine vk (vldn gA_R gS_R) ?_
  refine vk (vldn gA_R gS_R) ?_
  refine vk (vlda gA_R gS_R) ?_
  refine vk ((vbsl (RVs_flat [x1, x2, a2]) ge_RVs).deep) ?_
  obtain ⟨x8, hx8, h⟩ := bnd h
  refine vk (VOK.tupd (vs := [.ag [.b x8.1.1, .sl (L x8.1.2.1), .sl (L x8.1.2.2)], .i .i64 x8.2]) (vcl0 (ratMul_ok hx8) Try.call35)) ?_
  refine vk (vmvd) ?_
  refine vk (vex) ?_
  refine vk (vex) ?_
  refine stn ?_ gS_R (by decide)
  refine asd ?_
  refine rn ?_
  refine .gh (Gh.keep [3, 4, 5, 6, 7, 8, 9, 10, 11] rfl) ?_
  refine .seq ?_
  refine .region ?_
  refine vk (vlda gA_R gS_R) ?_
  refine vk (vlda gA_R gS_R) ?_
  refine vk (vlda gA_R gS_R) ?_
  refine vk ((vbsl (RVs_flat [a0, a1, a2]) ge_RVs).deep) ?_
  obtain ⟨x9, hx9, h⟩ := bnd h
  refine vk (VOK.tupd (vs := [.ag [.b x9.1.1, .sl (L x9.1.2.1), .sl (L x9.1.2.2)], .i .i64 x9.2]) (vcl0 (ref02_Mul_ok hx9) Try.call42)) ?_
  refine vk (vmvd) ?_
  refine vk (vex) ?_
  refine vk (vex) ?_
  refine stn ?_ gS_R (by decide)
  refine asd ?_
  refine rn ?_
  refine .gh (Gh.keep [3, 4, 6, 7, 8, 9, 10, 11, 12] rfl) ?_
  refine .seq ?_
  refine .seq ?_
  refine .region ?_
  refine vk (vldn gA_R gS_R) ?_
  refine vk (vmvd) ?_
  refine vk (vldn gA_R gS_R) ?_
  refine vk (vmvd) ?_
  obtain ⟨x10, hx10, h⟩ := bnd h
  refine vk (vcl0 (law02_same_ok hx10) Try.call18) ?_
  refine vk (vnt) ?_
  refine rn ?_
  refine .gh (Gh.keep [3, 4, 6, 7, 8, 9, 11, 64] rfl) ?_
  by_cases hc : x10 = true
  · replace h := ite_t hc h
    refine cnf (ntf hc) ?_
    refine .skip ?_
    show AW _ _ _ _ _ _
    refine .seq ?_
    refine .region ?_
    refine vk (vldn gA_R gS_R) ?_
    refine vk (vldn gA_R gS_R) ?_
    obtain ⟨x11, hx11, h⟩ := bnd h
    refine vk (VOK.tupd (vs := [.ag [.b x11.1.1, .sl (L x11.1.2.1), .sl (L x11.1.2.2)], .i .i64 x11.2]) (vcl0 (rat_Sub_ok hx11) Try.call43)) ?_
    refine vk (vmvd) ?_
    refine vk (vex) ?_
    refine vk (vex) ?_
    refine stn ?_ gS_R (by decide)
    refine asd ?_
    refine rn ?_
    refine .gh (Gh.keep [3, 4, 6, 7, 8, 9, 10, 11] rfl) ?_
    refine .seq ?_
    refine .region ?_
    refine vk (vlda gA_R gS_R) ?_
    refine vk (vlda gA_R gS_R) ?_
    obtain ⟨x12, hx12, h⟩ := bnd h
    refine vk (VOK.tupd (vs := [.ag [.b x12.1.1, .sl (L x12.1.2.1), .sl (L x12.1.2.2)], .i .i64 x12.2]) (vcl0 (ref02_Sub_ok hx12) Try.call44)) ?_
    refine vk (vmvd) ?_
    refine vk (vex) ?_
    refine vk (vex) ?_
    refine stn ?_ gS_R (by decide)
    refine asd ?_
    refine rn ?_
    refine .gh (Gh.keep [3, 4, 6, 7, 8, 9, 10, 11, 12] rfl) ?_
    refine .seq ?_
    refine .seq ?_
    refine .region ?_
    refine vk (vldn gA_R gS_R) ?_
    refine vk (vmvd) ?_
    refine vk (vldn gA_R gS_R) ?_
    refine vk (vmvd) ?_
    obtain ⟨x13, hx13, h⟩ := bnd h
    refine vk (vcl0 (law02_same_ok hx13) Try.call18) ?_
    refine vk (vnt) ?_
    refine rn ?_
    refine .gh (Gh.keep [3, 4, 6, 7, 8, 9, 11, 82] rfl) ?_
    by_cases hc : x13 = true
    · replace h := ite_t hc h
      refine cnf (ntf hc) ?_
      refine .skip ?_
      show AW _ _ _ _ _ _
      refine .seq ?_
      refine .region ?_
      refine vk (vldn gA_R gS_R) ?_
      refine vk (vldn gA_R gS_R) ?_
      obtain ⟨x14, hx14, h⟩ := bnd h
      refine vk (VOK.tupd (vs := [.ag [.b x14.1.1, .sl (L x14.1.2.1), .sl (L x14.1.2.2)], .i .i64 x14.2]) (vcl0 (rat_Div_ok hx14) Try.call36)) ?_
      refine vk (vmvd) ?_
      refine vk (vex) ?_
      refine vk (vex) ?_
      refine stn ?_ gS_R (by decide)
      refine asd ?_
      refine rn ?_
      refine .gh (Gh.keep [3, 4, 6, 7, 8, 9, 10, 11] rfl) ?_
      refine .seq ?_
      refine .region ?_
      refine vk (vlda gA_R gS_R) ?_
      refine vk (vlda gA_R gS_R) ?_
      obtain ⟨x15, hx15, h⟩ := bnd h
      refine vk (VOK.tupd (vs := [.ag [.b x15.1.1, .sl (L x15.1.2.1), .sl (L x15.1.2.2)], .i .i64 x15.2]) (vcl0 (ref02_Div_ok hx15) Try.call45)) ?_
      refine vk (vmvd) ?_
      refine vk (vex) ?_
      refine vk (vex) ?_
      refine stn ?_ gS_R (by decide)
      refine asd ?_
      refine rn ?_
      refine .gh (Gh.keep [3, 4, 6, 7, 8, 9, 10, 11, 12] rfl) ?_
      refine .seq ?_
      obtain ⟨x16, hx16, h⟩ := bnd h
      obtain ⟨z16, hz, h⟩ := bnd h
      refine AW.mr (σ := Unit) (fun _ => True) (fun _ => [(6, .d (.b z16))]) (fun _ => []) ?_ ?_
      · skip
        refine .region ?_
        refine vk (vldn gA_R gS_R) ?_
        refine vk (vmvd) ?_
        refine vk (vldn gA_R gS_R) ?_
        refine vk (vmvd) ?_
        refine vk (vcl0 (law02_same_ok hx16) Try.call18) ?_
        by_cases hc : x16 = true
        · replace hz := ite_t hc hz
          have hb0 : x16 = true := hc
          refine vk (VOK.lit (vmvd) hb0) ?_
          refine vk (vldn gA_R gS_R) ?_
          refine vk (vlda gA_R gS_R) ?_
          obtain ⟨x18, hx18, hz⟩ := bnd hz
          refine vk (vcl0 (ref2Same_ok hx18) Try.call25) ?_
          refine vk (vpkd) ?_
          by_cases hc : x18 = true
          · replace hz := ite_t hc hz
            have hb1 : x18 = true := hc
            refine vk (VOK.lit (vmvd) hb1) ?_
            refine vk (vldn gA_R gS_R) ?_
            refine vk (vlda gA_R gS_R) ?_
            obtain ⟨x19, hx19, hz⟩ := bnd hz
            refine vk (vcl0 (ref2Same_ok hx19) Try.call25) ?_
            refine vk (vpkd) ?_
            refine asd ?_
            refine RL.gh (Gh.keep [6] rfl) ?_
            refine .nil ?_
            cases hz
            exact jr () trivial
          replace hz := ite_f hc hz
          have hb1 : x18 = false := (bf hc)
          refine vk (VOK.lit (vmvd) hb1) ?_
          refine gf ?_
          refine gf ?_
          refine gf ?_
          refine vk (vpkd) ?_
          refine asd ?_
          refine RL.gh (Gh.keep [6] rfl) ?_
          refine .nil ?_
          cases hz
          exact jr () trivial
        replace hz := ite_f hc hz
        have hb0 : x16 = false := (bf hc)
        refine vk (VOK.lit (vmvd) hb0) ?_
        refine gf ?_
        refine gf ?_
        refine gf ?_
        refine vk (vpkd) ?_
        refine vk (vmvd) ?_
        refine gf ?_
        refine gf ?_
        refine gf ?_
        refine vk (vpkd) ?_
        refine asd ?_
        refine RL.gh (Gh.keep [6] rfl) ?_
        refine .nil ?_
        cases hz
        exact jr () trivial
      rintro _ _
      refine .ret ?_
      cases h
      exact ⟨rfl, rfl⟩
    replace h := ite_f hc h
    refine cnt (ntt (bf hc)) ?_
    refine .seq ?_
    refine .region ?_
    refine asd ?_
    refine rn ?_
    refine .gh (Gh.keep [3, 4, 6, 7, 8, 9, 11] rfl) ?_
    refine .ret ?_
    cases h
    exact ⟨rfl, rfl⟩
  replace h := ite_f hc h
  refine cnt (ntt (bf hc)) ?_
  refine .seq ?_
  refine .region ?_
  refine asd ?_
  refine rn ?_
  refine .gh (Gh.keep [3, 4, 6, 7, 8, 9, 11] rfl) ?_
  refine .ret ?_
  cases h
  exact ⟨rfl, rfl⟩
end Go.FL
/-
  GP: the law RatOrders.
-/
namespace Go.FL
open Go Go.Proofs

end Go.FL
/-
  GP: the law RatRounds.
-/
namespace Go.FL
open Go Go.Proofs

end Go.FL
/-
  Plain laws, rat 7: RatMakes, RatReckons, RatOrders, RatRounds.
-/
namespace Go.FL
open Go Go.Proofs

theorem ref2Same_eq {a c : RT} (h1 : a.2.1.length ≤ 35184372087808) (h2 : a.2.2.length ≤ 35184372087808) : ref2Same a c = some (decide (a = c)) := if_pos (by rw [decide_eq_true h1, decide_eq_true h2]; rfl)
theorem ofQ_len {p : Rat} (h : fits p) : (ofQ p).2.1.length ≤ 1048576 ∧ (ofQ p).2.2.length ≤ 1048576 := ⟨Nat.le_trans h.1 (by decide), Nat.le_trans h.2 (by decide)⟩
/-- An answer whose number is not too long. -/
def okA (x : RT × Int) : Prop := x.1.2.1.length ≤ 1048576 ∧ x.1.2.2.length ≤ 1048576
theorem okA_bad (e : Int) : okA (bad e) := ⟨Nat.zero_le _, Nat.zero_le _⟩
theorem okA_of {p : Rat} (h : fits p) (e : Int) : okA (ofQ p, e) := ofQ_len h
theorem okA_res (p : Rat) : okA (resR p) := by
  by_cases h : fits p
  · rw [resR_fits h]; exact okA_of h 0
  · rw [resR_not h]; exact okA_bad 8
theorem same_refl {x : RT × Int} (h : okA x) : law02_same x.1 x.2 x.1 x.2 = some true := by rw [same_eq (Nat.le_trans h.1 (by decide)) (Nat.le_trans h.2 (by decide))]; simp
theorem foldR_okA (op : Rat → Rat → Rat) : ∀ (l : List Rat) (s : Rat), fits s → okA (foldR op s l)
  | [], s, h => okA_of h 0
  | p :: l, s, h => by
    rw [foldR]; split
    · rename_i h2; exact foldR_okA op l _ h2
    · exact okA_bad 8
/-- A program's and a reference's function of many numbers give the same. -/
theorem add_same {l : List RT} (h : l.all okRB = true) (hl : l.length ≤ 1048576) : ∃ x, ratAdd l = some x ∧ ref02_Add l = some x ∧ okA x := by
  rcases all_cases l with h2 | ⟨ps, h2, rfl⟩
  · exact ⟨_, add_b h hl h2, ref_add_b h hl h2, okA_bad 22⟩
  · exact ⟨_, add_q h2 (by simpa using hl), ref_add_q h2 (by simpa using hl), foldR_okA _ _ _ fits_zero⟩
theorem mul_same {l : List RT} (h : l.all okRB = true) (hl : l.length ≤ 1048576) : ∃ x, ratMul l = some x ∧ ref02_Mul l = some x ∧ okA x := by
  rcases all_cases l with h2 | ⟨ps, h2, rfl⟩
  · exact ⟨_, mul_b h hl h2, ref_mul_b h hl h2, okA_bad 22⟩
  · exact ⟨_, mul_q h2 (by simpa using hl), ref_mul_q h2 (by simpa using hl), foldR_okA _ _ _ fits_one⟩
theorem sub_same {a b : RT} (ha : okRB a = true) (hb : okRB b = true) : ∃ x, rat_Sub a b = some x ∧ ref02_Sub a b = some x ∧ okA x := by
  rcases two_cases (a := a) (b := b) with h | ⟨p, q, hp, hq, rfl, rfl⟩
  · exact ⟨_, sub_b ha hb h, ref_sub_b ha hb h, okA_bad 22⟩
  · exact ⟨_, sub_q hp hq, ref_sub_q hp hq, okA_res _⟩
theorem div_same {a b : RT} (ha : okRB a = true) (hb : okRB b = true) : ∃ x, rat_Div a b = some x ∧ ref02_Div a b = some x ∧ okA x := by
  rcases two_cases (a := a) (b := b) with h | ⟨p, q, hp, hq, rfl, rfl⟩
  · exact ⟨_, div_b ha hb h, ref_div_b ha hb h, okA_bad 22⟩
  · refine ⟨_, div_q hp hq, ref_div_q hp hq, ?_⟩
    split
    · split
      · exact okA_of fits_one 0
      · exact okA_bad 3
    · exact okA_res _
theorem ap_nil {α : Type} {m : Nat} {xs : List α} (h : xs.length ≤ m) : ap? m [] xs = some xs := by
  unfold ap?; rw [if_pos (by simpa using h)]; simp
theorem copy_eq {a : RT} (ha : okRB a = true) : ref02_Copy a = some a := by
  obtain ⟨_, _, h1, h2⟩ := okRB_iff.1 ha
  unfold ref02_Copy
  rw [ap_nil (by omega), Option.bind_some, ap_nil (by omega)]; rfl
theorem ref2Same_self {a : RT} (ha : okRB a = true) : ref2Same a a = some true := by
  obtain ⟨_, _, h1, h2⟩ := okRB_iff.1 ha
  rw [ref2Same_eq h1 h2]; simp
theorem lawReckons {a b c : RT} (ha : okRB a = true) (hb : okRB b = true) (hc : okRB c = true) : law02_RatReckons a b c = some true := by
  unfold law02_RatReckons
  rw [copy_eq ha, Option.bind_some, copy_eq hb, Option.bind_some]
  have hall : [a, b, c].all okRB = true := by simp [ha, hb, hc]
  obtain ⟨x, x1, x2, x3⟩ := add_same hall (by simp)
  obtain ⟨y, y1, y2, y3⟩ := mul_same hall (by simp)
  obtain ⟨z, z1, z2, z3⟩ := sub_same ha hb
  obtain ⟨w, w1, w2, w3⟩ := div_same ha hb
  rw [x1, Option.bind_some, x2, Option.bind_some, live_eq, Option.bind_some, if_pos rfl, same_refl x3, Option.bind_some, Option.bind_some, if_neg (by decide), y1, Option.bind_some, y2, Option.bind_some, same_refl y3, Option.bind_some, if_pos rfl,
    z1, Option.bind_some, z2, Option.bind_some, same_refl z3, Option.bind_some, if_pos rfl, w1, Option.bind_some, w2, Option.bind_some, same_refl w3, Option.bind_some, if_pos rfl, ref2Same_self ha, Option.bind_some, if_pos rfl, ref2Same_self hb]
  rfl
end Go.FL
/-
  The statement RatReckonsSaid: for every input the law gives true, and each argument reads as it read before.
-/
namespace Go.Proofs.Ytijibkhkoopgpaa.ratReckons
open Go.ChangeShapes Go.WideShapes Go.ChangeAt Go.RowKit Go.FL

theorem own : ownKnob Try.prog.godebug = none := by kernel_rfl
theorem laid : laidOutB Try.prog = true := by kernel_rfl
theorem params : ∀ t ∈ Try.f9.params.toList, Try.prog.readableRec t = true ∧ t < Try.prog.types.size := by
  intro t ht
  simp only [Try.params9, List.mem_cons, List.not_mem_nil, or_false] at ht
  rcases ht with rfl | rfl | rfl <;> exact ⟨by kernel_rfl, of_decide_eq_true (by kernel_rfl)⟩
set_option maxRecDepth 100000 in
theorem lifted (os : Os) (started : os.Started) (H : Type) (enc : TypeId × Value → H) :
    ReturnsInHanded {} Try.checked os 9 .any (Rows.ratReckonsSpec.pre6 enc Try.prog Try.f9 Rows.ratReckonsRow.domain false) (Rows.ratReckonsSpec.post enc Try.prog Try.f9 false true false false) := by
  refine returnsInHanded_of_change_sized (C := Try.checked) own started (by kernel_rfl) Try.func9
    (ChangeSpec.witness6 (enc := enc) (C := Try.checked) false ⟨#[], #[.agg #[.bool false, .slice none 0 0, .slice none 0 0], .agg #[.bool false, .slice none 0 0, .slice none 0 0], .agg #[.bool false, .slice none 0 0, .slice none 0 0]], []⟩ 8 (by kernel_rfl) (by kernel_rfl) (by kernel_rfl) (by kernel_rfl)) ?_
  intro W base args ds gs before hval0 hW hcnd hsz _
  have hval : ∀ (j : Nat) t v, Try.f9.params[j]? = some t → args[j]? = some v → Value.okWide Try.prog W .any base t v := hval0
  have hW' := hW
  obtain ⟨p, q, hA0, hV, rfl, hfz, hnd⟩ := hW
  have hA : DataW.TrodAll enc Try.prog W 0 (fun _ => true) true Try.f9.params.toList args.toList ds p := hA0
  rw [Try.params9] at hA hval
  obtain ⟨v0, vs0, d0, ds0, p0, q0, hargs, rfl, rfl, h0, r0⟩ := trodAll_cons hA
  obtain ⟨v1, vs1, d1, ds1, p1, q1, rfl, rfl, rfl, h1, r1⟩ := trodAll_cons r0
  obtain ⟨v2, vs2, d2, ds2, p2, q2, rfl, rfl, rfl, h2, r2⟩ := trodAll_cons r1
  obtain ⟨rfl, rfl, rfl⟩ := trodAll_nil r2
  obtain rfl : args = #[v0, v1, v2] := by cases args; simp_all
  obtain ⟨rfl, rfl⟩ := trodVars_none hV
  rw [Try.params9] at hsz
  have w0 : ∀ m ∈ DataW.weights Try.prog 25 d0, m ≤ reachBytes := fun m hm => by simpa using List.all_eq_true.1 hsz m (DataW.weights_mem_each (j := 0) rfl rfl m hm)
  obtain ⟨a0, o0, e0⟩ := arg_agg (v := v0) op_rat (let ⟨cs, h, _⟩ := okWide_struct (P := Try.prog) Try.underlying25 (hval 0 25 v0 rfl rfl); ⟨cs, h⟩) h0 w0
  have w1 : ∀ m ∈ DataW.weights Try.prog 25 d1, m ≤ reachBytes := fun m hm => by simpa using List.all_eq_true.1 hsz m (DataW.weights_mem_each (j := 1) rfl rfl m hm)
  obtain ⟨a1, o1, e1⟩ := arg_agg (v := v1) op_rat (let ⟨cs, h, _⟩ := okWide_struct (P := Try.prog) Try.underlying25 (hval 1 25 v1 rfl rfl); ⟨cs, h⟩) h1 w1
  have w2 : ∀ m ∈ DataW.weights Try.prog 25 d2, m ≤ reachBytes := fun m hm => by simpa using List.all_eq_true.1 hsz m (DataW.weights_mem_each (j := 2) rfl rfl m hm)
  obtain ⟨a2, o2, e2⟩ := arg_agg (v := v2) op_rat (let ⟨cs, h, _⟩ := okWide_struct (P := Try.prog) Try.underlying25 (hval 2 25 v2 rfl rfl); ⟨cs, h⟩) h2 w2
  refine (law_calls (law02_RatReckons_ok (lawReckons o0 o1 o2)) (.cons e0 (.cons e1 (.cons e2 .nil)))).mono fun e W' ⟨he, hb⟩ => ?_
  subst he
  exact ⟨_, rfl, post_law hW' rfl (fun _ => rfl) rfl Try.underlying4 laid params hb⟩

theorem over : Rows.ratReckonsRow.holds Try.pinned (OpenSpec.ofChange Rows.ratReckonsSpec) :=
  OpenClaim.holds_of_wide 9 Try.f9 rfl rfl rfl rfl rfl rfl rfl ⟨rfl, rfl, rfl, rfl, rfl⟩ rfl rfl rfl rfl rfl (by kernel_rfl) Try.func9 (by kernel_rfl)
    (of_decide_eq_true (by kernel_rfl)) (by unfold Func.isWrapper; first | (rw [if_pos (by decide +kernel)]; kernel_rfl) | (rw [if_neg (by decide +kernel)]; exact ⟨rfl, rfl⟩))
    (fun os started H enc _ => lifted os started H enc)

theorem proved : Rows.RatReckonsSaid :=
  over
end Go.Proofs.Ytijibkhkoopgpaa.ratReckons
