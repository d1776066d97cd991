/-
  The law: its function printed as a pure function, its contract, the plain law, the statement
-/
import Derived.Test.YtcoofpnbnifbbaaArE
import Derived.Test.YtcoofpnbnifbbaaRows
set_option linter.unusedVariables false
/-
  GP: the law ArrayBack.
-/
namespace Go.FL
open Go Go.Proofs

end Go.FL
/-
  GP: the law ArrayDeeper.
-/
namespace Go.FL
open Go Go.Proofs

end Go.FL
/-
  GP: the law ArrayInts.
-/
namespace Go.FL
open Go Go.Proofs

def law03_ArrayInts_l1 (a0 : (List Int)) (x2 : (List Int) × Bool) (K0 : Bool → Option (Bool)) : Nat → Bool → Int → Option (Bool)
  | 0, _, _ => none
  | k + 1, s8, s9 => (if s9 < ((List.length x2.1 : Nat) : Int) then ((rd? a0 s9).bind fun x10 => ((array_Int x10).bind fun x11 => ((array_ToInt x11).bind fun x12 => ((rd? x2.1 s9).bind fun x13 => ((rd? a0 s9).bind fun x14 => (Option.bind ((if x13 = x14 then ((rd? a0 s9).bind fun x16 => (if x12.1 = x16 then (some (!x12.2)) else (some true))) else (some true)) : Option (Bool)) fun (z13 : Bool) => (if z13 = true then (some (false)) else (law03_ArrayInts_l1 a0 x2 K0 k s8 (w64 (s9 + 1)))))))))) else (K0 s8))
def law03_ArrayInts (a0 : (List Int)) : Option (Bool) := ((arInts a0).bind fun x1 => ((arToInts x1).bind fun x2 => (law03_live.bind fun x3 => (Option.bind ((if x3 = true then ((ref03_Ints a0).bind fun x5 => ((ref3_Same x1 x5).bind fun x6 => (if x6 = true then (if x2.2 = true then (if 4096 < ((List.length x2.1 : Nat) : Int) then (some true) else (if ((List.length a0 : Nat) : Int) ≤ 4096 then (some (!(decide (((List.length x2.1 : Nat) : Int) = ((List.length a0 : Nat) : Int))))) else (some false))) else (some true)) else (some true)))) else (some true)) : Option (Bool)) fun (z3 : Bool) => (if z3 = true then (some (false)) else (jn (fun (z7 : Bool) => (some (true))) fun K0 => (law03_ArrayInts_l1 a0 x2 K0 FUEL false 0)))))))
set_option maxHeartbeats 4000000 in
theorem law03_ArrayInts_ok {a0 : (List Int)} {r : Bool} (h : law03_ArrayInts a0 = some r) :
    Fn Try.prog 4 [.sl (Is a0)] (.d (.b r)) := by
  unfold law03_ArrayInts at h
  refine Fn.of (rs := [.tmp 2]) (nt := 82) Try.func4 rfl rfl rfl (by simp) rfl ?_
  refine .seq ?_
  refine .region ?_
  refine asd ?_
  refine rn ?_
  refine .gh (Gh.keep [0, 2] rfl) ?_
  refine .seq ?_
  refine .region ?_
  refine vk (vmvd) ?_
  obtain ⟨x1, hx1, h⟩ := bnd h
  refine vk (vcl0 (arInts_ok hx1) Try.call19) ?_
  refine vk (van (zero_of gI_Arr) gZ_Arr) ?_
  refine stn ?_ gS_Arr (by decide)
  refine rn ?_
  refine .gh (Gh.keep [0, 2, 3] rfl) ?_
  refine .seq ?_
  refine .region ?_
  refine vk (vldn gA_Arr gS_Arr) ?_
  obtain ⟨x2, hx2, h⟩ := bnd h
  refine vk (VOK.tupd (vs := [.sl (Is x2.1), .b x2.2]) (vcl0 (arToInts_ok hx2) Try.call20)) ?_
  refine vk (vmvd) ?_
  refine vk (vex) ?_
  refine vk (vex) ?_
  refine asd ?_
  refine asd ?_
  refine rn ?_
  refine .gh (Gh.keep [0, 2, 3, 4, 5] rfl) ?_
  refine .seq ?_
  refine .seq ?_
  obtain ⟨x3, hx3, h⟩ := bnd h
  obtain ⟨z3, hz, h⟩ := bnd h
  refine AW.mr (σ := Unit) (fun _ => True) (fun _ => [(0, .d (.sl (Is a0))), (2, .d (.b false)), (4, .d (.sl (Is x2.1))), (45, .d (.b z3))]) (fun _ => []) ?_ ?_
  · skip
    refine .drawn 30 mixed (by kernel_rfl) ?_
    refine dv (vcl0 (law03_live_ok hx3) Try.call16) ?_
    refine dv (vnt) ?_
    by_cases hc : x3 = true
    · replace hz := ite_t hc hz
      have hb0 : (!x3) = false := (ntf hc)
      refine dv (VOK.lit (vmvd) hb0) ?_
      refine dv (vldn gA_Arr gS_Arr) ?_
      refine dv (vmvd) ?_
      obtain ⟨x5, hx5, hz⟩ := bnd hz
      refine dv (vcl0 (ref03_Ints_ok hx5) Try.call22) ?_
      obtain ⟨x6, hx6, hz⟩ := bnd hz
      refine dv (vcl0 (ref3_Same_ok hx6) Try.call21) ?_
      refine dv (vnt) ?_
      refine dv (vpkd) ?_
      by_cases hc : x6 = true
      · replace hz := ite_t hc hz
        have hb1 : (!x6) = false := (ntf hc)
        refine dv (VOK.lit (vmvd) hb1) ?_
        refine dv (vmvd) ?_
        refine dv (vnt) ?_
        refine dv (vpkd) ?_
        by_cases hc : x2.2 = true
        · replace hz := ite_t hc hz
          have hb2 : (!x2.2) = false := (ntf hc)
          refine dv (VOK.lit (vmvd) hb2) ?_
          refine dv (vmvd) ?_
          refine dv (vlnE (Is_length _) (Is_sz _) gu_Is) ?_
          refine dv (vbi) ?_
          refine dv (vpkd) ?_
          by_cases hc : 4096 < ((List.length x2.1 : Nat) : Int)
          · replace hz := ite_t hc hz
            have hb3 : (decide (4096 < ((List.length x2.1 : Nat) : Int))) = true := (decide_eq_true hc)
            refine dv (VOK.lit (vmvd) hb3) ?_
            refine dgf ?_
            refine dgf ?_
            refine dgf ?_
            refine dgfu ?_
            refine dgf ?_
            refine dgf ?_
            refine dgf ?_
            refine dgf ?_
            refine dgf ?_
            refine dgf ?_
            refine dv (vpkd) ?_
            refine dz ?_
            refine RL.gh (Gh.keep [0, 2, 4, 45] rfl) ?_
            refine .nil ?_
            cases hz
            exact jr () trivial
          replace hz := ite_f hc hz
          have hb3 : (decide (4096 < ((List.length x2.1 : Nat) : Int))) = false := (decide_eq_false hc)
          refine dv (VOK.lit (vmvd) hb3) ?_
          refine dv (vmvd) ?_
          refine dv (vlnE (Is_length _) (Is_sz _) gu_Is) ?_
          refine dv (vbi) ?_
          by_cases hc : ((List.length a0 : Nat) : Int) ≤ 4096
          · replace hz := ite_t hc hz
            have hb4 : (decide (((List.length a0 : Nat) : Int) ≤ 4096)) = true := (decide_eq_true hc)
            refine dv (VOK.lit (vmvd) hb4) ?_
            refine dv (vmvd) ?_
            refine dv (vlnE (Is_length _) (Is_sz _) gu_Is) ?_
            refine dv (vmvd) ?_
            refine dv (vlnE (Is_length _) (Is_sz _) gu_Is) ?_
            refine dv (vbi) ?_
            refine dv (vpkd) ?_
            refine dv (vpkd) ?_
            refine dz ?_
            refine RL.gh (Gh.keep [0, 2, 4, 45] rfl) ?_
            refine .nil ?_
            cases hz
            exact jr () trivial
          replace hz := ite_f hc hz
          have hb4 : (decide (((List.length a0 : Nat) : Int) ≤ 4096)) = false := (decide_eq_false hc)
          refine dv (VOK.lit (vmvd) hb4) ?_
          refine dgf ?_
          refine dgf ?_
          refine dgf ?_
          refine dgf ?_
          refine dgf ?_
          refine dv (vpkd) ?_
          refine dv (vpkd) ?_
          refine dz ?_
          refine RL.gh (Gh.keep [0, 2, 4, 45] rfl) ?_
          refine .nil ?_
          cases hz
          exact jr () trivial
        replace hz := ite_f hc hz
        have hb2 : (!x2.2) = true := (ntt (bf hc))
        refine dv (VOK.lit (vmvd) hb2) ?_
        refine dgf ?_
        refine dgf ?_
        refine dgf ?_
        refine dv (vpkd) ?_
        refine dv (vmvd) ?_
        refine dgf ?_
        refine dgf ?_
        refine dgf ?_
        refine dgfu ?_
        refine dgf ?_
        refine dgf ?_
        refine dgf ?_
        refine dgf ?_
        refine dgf ?_
        refine dgf ?_
        refine dv (vpkd) ?_
        refine dz ?_
        refine RL.gh (Gh.keep [0, 2, 4, 45] rfl) ?_
        refine .nil ?_
        cases hz
        exact jr () trivial
      replace hz := ite_f hc hz
      have hb1 : (!x6) = true := (ntt (bf hc))
      refine dv (VOK.lit (vmvd) hb1) ?_
      refine dgf ?_
      refine dgf ?_
      refine dv (vpkd) ?_
      refine dv (vmvd) ?_
      refine dgf ?_
      refine dgf ?_
      refine dgf ?_
      refine dv (vpkd) ?_
      refine dv (vmvd) ?_
      refine dgf ?_
      refine dgf ?_
      refine dgf ?_
      refine dgfu ?_
      refine dgf ?_
      refine dgf ?_
      refine dgf ?_
      refine dgf ?_
      refine dgf ?_
      refine dgf ?_
      refine dv (vpkd) ?_
      refine dz ?_
      refine RL.gh (Gh.keep [0, 2, 4, 45] rfl) ?_
      refine .nil ?_
      cases hz
      exact jr () trivial
    replace hz := ite_f hc hz
    have hb0 : (!x3) = true := (ntt (bf hc))
    refine dv (VOK.lit (vmvd) hb0) ?_
    refine dgf ?_
    refine dgf ?_
    refine dgf ?_
    refine dgf ?_
    refine dgf ?_
    refine dv (vpkd) ?_
    refine dv (vmvd) ?_
    refine dgf ?_
    refine dgf ?_
    refine dv (vpkd) ?_
    refine dv (vmvd) ?_
    refine dgf ?_
    refine dgf ?_
    refine dgf ?_
    refine dv (vpkd) ?_
    refine dv (vmvd) ?_
    refine dgf ?_
    refine dgf ?_
    refine dgf ?_
    refine dgfu ?_
    refine dgf ?_
    refine dgf ?_
    refine dgf ?_
    refine dgf ?_
    refine dgf ?_
    refine dgf ?_
    refine dv (vpkd) ?_
    refine dz ?_
    refine RL.gh (Gh.keep [0, 2, 4, 45] rfl) ?_
    refine .nil ?_
    cases hz
    exact jr () trivial
  rintro _ _
  by_cases hc : z3 = true
  · replace h := ite_t hc h
    refine cnt hc ?_
    refine .seq ?_
    refine .region ?_
    refine asd ?_
    refine rn ?_
    refine .gh (Gh.keep [0, 2, 4] rfl) ?_
    refine .ret ?_
    cases h
    exact ⟨rfl, rfl⟩
  replace h := ite_f hc h
  refine cnf (bf hc) ?_
  refine .skip ?_
  show AW _ _ _ _ _ _
  refine .seq ?_
  refine .seq ?_
  refine .region ?_
  refine asd ?_
  refine rn ?_
  refine .gh (Gh.keep [0, 2, 4, 6] rfl) ?_
  obtain ⟨K0, hK0, h⟩ := jn_out h
  refine AW.mr (σ := Bool) (fun p => K0 p = some r) (fun p => [(2, .d (.b p))]) (fun p => []) ?_ ?_
  · skip
    refine .block ?_
    refine .loop (.gh (Gh.keep [0, 2, 4, 6] rfl) ?_)
    refine AL.ind (σ := Nat × Bool × Int) (m := fun p => p.1) (e := fun p => [(0, .d (.sl (Is a0))), (2, .d (.b p.2.1)), (4, .d (.sl (Is x2.1))), (6, .d (.i .i64 p.2.2))]) (h := fun p => []) (I := fun p => law03_ArrayInts_l1 a0 x2 K0 p.1 p.2.1 p.2.2 = some r) ?_ (FUEL, false, 0) h
    rintro ⟨k, s8, s9⟩ h ih
    dsimp only at h ih ⊢
    rcases k with _ | k
    · rw [law03_ArrayInts_l1] at h; cases h
    rw [law03_ArrayInts_l1] at h
    refine .seq ?_
    refine .seq ?_
    refine .region ?_
    refine vk (vmvd) ?_
    refine vk (vmvd) ?_
    refine vk (vlnE (Is_length _) (Is_sz _) gu_Is) ?_
    refine vk (vbi) ?_
    refine rn ?_
    refine .gh (Gh.keep [0, 2, 4, 6, 49] rfl) ?_
    by_cases hc : s9 < ((List.length x2.1 : Nat) : Int)
    · replace h := ite_t hc h
      refine cnt (decide_eq_true hc) ?_
      refine .skip ?_
      show AW _ _ _ _ _ _
      refine .seq ?_
      refine .block ?_
      refine .seq ?_
      refine .region ?_
      refine vk (vmvd) ?_
      refine vk (vmvd) ?_
      obtain ⟨x10, hx10, h⟩ := bnd h
      obtain ⟨nx10, hnx10, hxx10⟩ := rd_some hx10
      refine vk (vix nx10 hnx10 (Is_at hxx10) rfl gs_Is) ?_
      refine vk (vldp ga_int) ?_
      obtain ⟨x11, hx11, h⟩ := bnd h
      refine vk (vcl0 (array_Int_ok hx11) Try.call24) ?_
      obtain ⟨x12, hx12, h⟩ := bnd h
      refine vk (VOK.tupd (vs := [.i .i64 x12.1, .b x12.2]) (vcl0 (array_ToInt_ok hx12) Try.call23)) ?_
      refine vk (vmvd) ?_
      refine vk (vex) ?_
      refine vk (vex) ?_
      refine asd ?_
      refine asd ?_
      refine rn ?_
      refine .gh (Gh.keep [0, 2, 4, 6, 7, 8] rfl) ?_
      refine .seq ?_
      obtain ⟨x13, hx13, h⟩ := bnd h
      obtain ⟨x14, hx14, h⟩ := bnd h
      obtain ⟨z13, hz, h⟩ := bnd h
      refine AW.mr (σ := Unit) (fun _ => True) (fun _ => [(0, .d (.sl (Is a0))), (2, .d (.b s8)), (4, .d (.sl (Is x2.1))), (6, .d (.i .i64 s9)), (81, .d (.b z13))]) (fun _ => []) ?_ ?_
      · skip
        refine .drawn 21 mixed (by kernel_rfl) ?_
        refine dv (vmvd) ?_
        refine dv (vmvd) ?_
        obtain ⟨nx13, hnx13, hxx13⟩ := rd_some hx13
        refine dv (vix nx13 hnx13 (Is_at hxx13) rfl gs_Is) ?_
        refine dv (vldp ga_int) ?_
        refine dv (vmvd) ?_
        refine dv (vmvd) ?_
        obtain ⟨nx14, hnx14, hxx14⟩ := rd_some hx14
        refine dv (vix nx14 hnx14 (Is_at hxx14) rfl gs_Is) ?_
        refine dv (vldp ga_int) ?_
        refine dv (vbi) ?_
        by_cases hc : x13 = x14
        · replace hz := ite_t hc hz
          have hb0 : (!(decide (x13 = x14))) = false := (ntf (decide_eq_true hc))
          refine dv (VOK.lit (vmvd) hb0) ?_
          refine dv (vmvd) ?_
          refine dv (vmvd) ?_
          refine dv (vmvd) ?_
          obtain ⟨x16, hx16, hz⟩ := bnd hz
          obtain ⟨nx16, hnx16, hxx16⟩ := rd_some hx16
          refine dv (vix nx16 hnx16 (Is_at hxx16) rfl gs_Is) ?_
          refine dv (vldp ga_int) ?_
          refine dv (vbi) ?_
          refine dv (vpkd) ?_
          by_cases hc : x12.1 = x16
          · replace hz := ite_t hc hz
            have hb1 : (!(decide (x12.1 = x16))) = false := (ntf (decide_eq_true hc))
            refine dv (VOK.lit (vmvd) hb1) ?_
            refine dv (vmvd) ?_
            refine dv (vnt) ?_
            refine dv (vpkd) ?_
            refine dz ?_
            refine RL.gh (Gh.keep [0, 2, 4, 6, 81] rfl) ?_
            refine .nil ?_
            cases hz
            exact jr () trivial
          replace hz := ite_f hc hz
          have hb1 : (!(decide (x12.1 = x16))) = true := (ntt (decide_eq_false hc))
          refine dv (VOK.lit (vmvd) hb1) ?_
          refine dgf ?_
          refine dgf ?_
          refine dv (vpkd) ?_
          refine dz ?_
          refine RL.gh (Gh.keep [0, 2, 4, 6, 81] rfl) ?_
          refine .nil ?_
          cases hz
          exact jr () trivial
        replace hz := ite_f hc hz
        have hb0 : (!(decide (x13 = x14))) = true := (ntt (decide_eq_false hc))
        refine dv (VOK.lit (vmvd) hb0) ?_
        refine dgf ?_
        refine dgf ?_
        refine dgf ?_
        refine dgf ?_
        refine dgf ?_
        refine dgf ?_
        refine dv (vpkd) ?_
        refine dv (vmvd) ?_
        refine dgf ?_
        refine dgf ?_
        refine dv (vpkd) ?_
        refine dz ?_
        refine RL.gh (Gh.keep [0, 2, 4, 6, 81] rfl) ?_
        refine .nil ?_
        cases hz
        exact jr () trivial
      rintro _ _
      by_cases hc : z13 = true
      · replace h := ite_t hc h
        refine cnt hc ?_
        refine .seq ?_
        refine .region ?_
        refine asd ?_
        refine rn ?_
        refine .gh (Gh.keep [0, 2, 4, 6] rfl) ?_
        refine .ret ?_
        cases h
        exact ⟨rfl, rfl⟩
      replace h := ite_f hc h
      refine cnf (bf hc) ?_
      refine .skip ?_
      show AW _ _ _ _ _ _
      refine .region ?_
      refine vk (vmvd) ?_
      refine vk (vbi) ?_
      refine asd ?_
      refine .nil ?_
      refine AL.gh (Gh.keep [0, 2, 4, 6] rfl) ?_
      exact ih (k, s8, (w64 (s9 + 1))) h (Nat.lt_succ_self _)
    replace h := ite_f hc h
    refine cnf (decide_eq_false hc) ?_
    refine .gh (Gh.keep [2] rfl) ?_
    refine .exit ?_
    exact jr (s8) h
  rintro z7 h
  try dsimp only at h ⊢
  subst hK0
  show AW _ _ _ _ _ _
  refine .seq ?_
  refine .region ?_
  refine asd ?_
  refine rn ?_
  refine .gh (Gh.keep [2] rfl) ?_
  refine .ret ?_
  cases h
  exact ⟨rfl, rfl⟩
end Go.FL
/-
  GP: the law ArraySimple.
-/
namespace Go.FL
open Go Go.Proofs

end Go.FL
/-
  Plain laws of arrays, 6: the document's way; the four laws.
-/
namespace Go.FL
open Go Go.Proofs

theorem refCopy_eq {a : RT} (ha : okRB a = true) : ref02_Copy a = some a := by
  obtain ⟨_, _, h1, h2⟩ := okRB_iff.1 ha
  unfold ref02_Copy
  rw [ap_eq (by simp; omega), Option.bind_some, ap_eq (by simp; omega)]; rfl
theorem refNum_eq {a : RT} (ha : okRB a = true) : ref03_Num a = some (.mk [] [.mk 1 a 0 []]) := by
  unfold ref03_Num; rw [refCopy_eq ha]; rfl
theorem refInt_eq {z : Int} (h : in64 z) : ref03_Int z = some (.mk [] [numI z]) := by
  unfold ref03_Int; rw [ref_ofInt_q h.1 h.2, Option.bind_some, refNum_eq (ofQ_okRB (fits_in64 h))]; rfl
theorem refInts_loop {l : List Int} (h : ∀ z ∈ l, in64 z) (hl : l.length ≤ 140737488355327) (K : List Itm → Option Arr) : ∀ (n i k : Nat) (t : List Itm), n = l.length - i → i ≤ l.length → i ≤ 4096 → n < k → t.length = i →
    ref03_Ints_l1 l K k t (i : Int) = K (t ++ ((l.take 4096).drop i).map numI)
  | _, _, 0, _, _, _, _, h, _ => by omega
  | n, i, k + 1, t, hn, hi, hm, hk, ht => by
    rw [ref03_Ints_l1]
    have hlen : (l.take 4096).length = min 4096 l.length := List.length_take
    by_cases hc : i < l.length ∧ i < 4096
    · have hz := h _ (List.getElem_mem hc.1)
      have hg : (l.take 4096)[i]'(by omega) = l[i] := List.getElem_take
      rw [if_pos (by rw [decide_eq_true (by omega), decide_eq_true (by omega)]; rfl), rd_get hc.1, Option.bind_some, refInt_eq hz, Option.bind_some, it_mk, rd_0, Option.bind_some, ap_eq (by simp; omega), Option.bind_some, w64_nat (by omega),
        refInts_loop h hl K (n - 1) (i + 1) k _ (by omega) (by omega) (by omega) (by omega) (by simp [ht]), List.drop_eq_getElem_cons (by omega : i < (l.take 4096).length), hg, List.append_assoc]
      rfl
    · rw [if_neg (by
        rw [Bool.and_eq_true, decide_eq_true_eq, decide_eq_true_eq]; omega), List.drop_of_length_le (by omega), List.map_nil, List.append_nil]
theorem refInts_eq {l : List Int} (h : ∀ z ∈ l, in64 z) (hl : l.length ≤ 140737488355327) : ref03_Ints l = some (vecZ l) := by
  unfold ref03_Ints
  rw [jn_ar]
  have := refInts_loop h hl (fun z1 => jn (fun (z8 : List Itm) => some (Arr.mk [((List.length z1 : Nat) : Int)] z8)) fun K2 => if ((List.length z1 : Nat) : Int) = 0 then ((ref03_Int 0).bind fun x9 => K2 x9.items) else K2 z1) l.length 0 FUEL [] rfl (Nat.zero_le _) (Nat.zero_le _) (fuel_gt (by omega)) rfl
  rw [show ((0 : Nat) : Int) = 0 from rfl, List.drop_zero, List.nil_append] at this
  rw [this]
  show jn _ _ = _
  rw [jn_ar]
  unfold vecZ vecOf
  have hlen : ((l.take 4096).map numI).length = min l.length 4096 := by rw [List.length_map, List.length_take, Nat.min_comm]
  rw [hlen, List.length_map]
  by_cases h0 : l.length = 0
  · rw [if_pos (by omega), if_pos h0, refInt_eq in64_zero]; rfl
  · rw [if_neg (by omega), if_neg h0, List.map_take]
theorem same_self {a : Arr} (h : okAr a) : ref3_Same a a = some true := (r3_same h).yes rfl

theorem lawInts {l : List Int} (h : ∀ z ∈ l, in64 z) (hl : l.length ≤ 17592186044416) : law03_ArrayInts l = some true := by
  unfold law03_ArrayInts
  rw [arInts_eq h (by omega), Option.bind_some]
  show (arToInts (vecZ l)).bind _ = _
  have hlen : (l.take 4096).length = min 4096 l.length := List.length_take
  rw [arToInts_vecZ h, Option.bind_some, live3, Option.bind_some, if_pos rfl, refInts_eq h (by omega), Option.bind_some]
  show Option.bind ((ref3_Same (vecZ l) (vecZ l)).bind _) _ = _
  rw [same_self (vecZ_ok h), Option.bind_some, if_pos rfl, if_pos rfl, if_neg (by show ¬ (4096 < (((l.take 4096).length : Nat) : Int)); omega)]
  have hfin : (jn (fun (_ : Bool) => some true) fun K0 => law03_ArrayInts_l1 l (l.take 4096, true) K0 FUEL false 0) = some true := by
    rw [jn_ar]
    have hloop : ∀ (n i k : Nat) (s : Bool), n = (l.take 4096).length - i → i ≤ (l.take 4096).length → n < k → law03_ArrayInts_l1 l (l.take 4096, true) (fun _ => some true) k s (i : Int) = some true := by
      intro n i k
      induction k generalizing n i with
      | zero => intro s _ _ h; omega
      | succ k ih =>
        intro s hn hi hk
        rw [law03_ArrayInts_l1]
        by_cases hc : i < (l.take 4096).length
        · have hi2 : i < l.length := by omega
          have hz := h _ (List.getElem_mem hi2)
          have hg : (l.take 4096)[i] = l[i] := List.getElem_take
          rw [if_pos (show (i : Int) < (((l.take 4096).length : Nat) : Int) by omega), rd_get hi2, Option.bind_some, Int_eq hz, Option.bind_some, ToInt_z hz, Option.bind_some]
          show (rd? (l.take 4096) (i : Int)).bind _ = _
          rw [rd_get hc, Option.bind_some, Option.bind_some, hg, if_pos rfl, Option.bind_some, if_pos rfl, Bool.not_true, Option.bind_some, if_neg (by decide), w64_nat (by omega)]
          exact ih (n - 1) (i + 1) s (by omega) (by omega) (by omega)
        · rw [if_neg (show ¬ ((i : Int) < (((l.take 4096).length : Nat) : Int)) by omega)]
    exact hloop (l.take 4096).length 0 FUEL false rfl (Nat.zero_le _) (fuel_gt (by omega))
  by_cases hc : ((l.length : Nat) : Int) ≤ 4096
  · rw [if_pos hc, decide_eq_true (show (((l.take 4096).length : Nat) : Int) = ((l.length : Nat) : Int) by omega), Bool.not_true, Option.bind_some, if_neg (by decide)]
    exact hfin
  · rw [if_neg hc, Option.bind_some, if_neg (by decide)]
    exact hfin

theorem saidInts {l : List Int} (h : (∀ z ∈ l, -9223372036854775808 ≤ z ∧ z ≤ 9223372036854775807) ∧ l.length ≤ 17592186044416) : law03_ArrayInts l = some true := lawInts h.1 h.2
end Go.FL
/-
  The statement ArrayIntsSaid: for every input the law gives true, and each argument reads as it read before.
-/
namespace Go.Proofs.Ytcoofpnbnifbbaa.arrayInts
open Go.ChangeShapes Go.WideShapes Go.ChangeAt Go.RowKit Go.FL

theorem own : ownKnob Try.prog.godebug = none := by kernel_rfl
theorem laid : laidOutB Try.prog = true := by kernel_rfl
theorem params : ∀ t ∈ Try.f4.params.toList, Try.prog.readableRec t = true ∧ t < Try.prog.types.size := by
  intro t ht
  simp only [Try.params4, List.mem_cons, List.not_mem_nil, or_false] at ht
  rcases ht with rfl <;> exact ⟨by kernel_rfl, of_decide_eq_true (by kernel_rfl)⟩
set_option maxRecDepth 100000 in
theorem lifted (os : Os) (started : os.Started) (H : Type) (enc : TypeId × Value → H) :
    ReturnsInHanded {} Try.checked os 4 .any (Rows.arrayIntsSpec.pre6 enc Try.prog Try.f4 Rows.arrayIntsRow.domain false) (Rows.arrayIntsSpec.post enc Try.prog Try.f4 false true false false) := by
  refine returnsInHanded_of_change_sized (C := Try.checked) own started (by kernel_rfl) Try.func4
    (ChangeSpec.witness6 (enc := enc) (C := Try.checked) false ⟨#[], #[.slice none 0 0], []⟩ 8 (by kernel_rfl) (by kernel_rfl) (by kernel_rfl) (by kernel_rfl)) ?_
  intro W base args ds gs before hval0 hW hcnd hsz _
  have hval : ∀ (j : Nat) t v, Try.f4.params[j]? = some t → args[j]? = some v → Value.okWide Try.prog W .any base t v := hval0
  have hW' := hW
  obtain ⟨p, q, hA0, hV, rfl, hfz, hnd⟩ := hW
  have hA : DataW.TrodAll enc Try.prog W 0 (fun _ => true) true Try.f4.params.toList args.toList ds p := hA0
  rw [Try.params4] at hA hval
  obtain ⟨v0, vs0, d0, ds0, p0, q0, hargs, rfl, rfl, h0, r0⟩ := trodAll_cons hA
  obtain ⟨rfl, rfl, rfl⟩ := trodAll_nil r0
  obtain rfl : args = #[v0] := by cases args; simp_all
  obtain ⟨rfl, rfl⟩ := trodVars_none hV
  rw [Try.params4] at hsz
  have w0 : ∀ m ∈ DataW.weights Try.prog 22 d0, m ≤ reachBytes := fun m hm => by simpa using List.all_eq_true.1 hsz m (DataW.weights_mem_each (j := 0) rfl rfl m hm)
  obtain ⟨a0, o0, e0⟩ := arg_cell (v := v0) op_ints (by obtain ⟨x0, x1, x2, rfl⟩ := okWide_slice Try.underlying22 (hval 0 22 v0 rfl rfl); rfl) h0 w0
  refine (law_calls (law03_ArrayInts_ok (saidInts o0)) (.cons e0 .nil)).mono fun e W' ⟨he, hb⟩ => ?_
  subst he
  exact ⟨_, rfl, post_law hW' rfl (fun _ => rfl) rfl Try.underlying4 laid params hb⟩

theorem over : Rows.arrayIntsRow.holds Try.pinned (OpenSpec.ofChange Rows.arrayIntsSpec) :=
  OpenClaim.holds_of_wide 4 Try.f4 rfl rfl rfl rfl rfl rfl rfl ⟨rfl, rfl, rfl, rfl, rfl⟩ rfl rfl rfl rfl rfl (by kernel_rfl) Try.func4 (by kernel_rfl)
    (of_decide_eq_true (by kernel_rfl)) (by unfold Func.isWrapper; first | (rw [if_pos (by decide +kernel)]; kernel_rfl) | (rw [if_neg (by decide +kernel)]; exact ⟨rfl, rfl⟩))
    (fun os started H enc _ => lifted os started H enc)

theorem proved : Rows.ArrayIntsSaid :=
  over
end Go.Proofs.Ytcoofpnbnifbbaa.arrayInts
