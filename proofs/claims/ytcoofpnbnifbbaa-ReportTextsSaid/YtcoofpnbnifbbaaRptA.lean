/-
  The law: its function printed as a pure function, its contract, the plain law, the statement
-/
import Derived.Test.YtcoofpnbnifbbaaRaD
import Derived.Test.YtcoofpnbnifbbaaRows
set_option linter.unusedVariables false
/-
  GP: the law RatMakes.
-/
namespace Go.FL
open Go Go.Proofs

end Go.FL
/-
  GP: the law RatReckons.
-/
namespace Go.FL
open Go Go.Proofs

end Go.FL
/-
  GP: the law RatOrders.
-/
namespace Go.FL
open Go Go.Proofs

end Go.FL
/-
  GP: the law RatRounds.
-/
namespace Go.FL
open Go Go.Proofs

end Go.FL
/-
  Plain laws, rat 7: RatMakes, RatReckons, RatOrders, RatRounds.
-/
namespace Go.FL
open Go Go.Proofs

end Go.FL
/-
  GP: the law RatBack.
-/
namespace Go.FL
open Go Go.Proofs

end Go.FL
/-
  GP: the law RatResidues.
-/
namespace Go.FL
open Go Go.Proofs

end Go.FL
/-
  Plain laws, rat 8: RatBack, RatResidues.
-/
namespace Go.FL
open Go Go.Proofs

end Go.FL
/-
  GP: the law RatCompares.
-/
namespace Go.FL
open Go Go.Proofs

end Go.FL
/-
  Plain laws, rat 9: RatCompares.
-/
namespace Go.FL
open Go Go.Proofs

def absR (p : Rat) : Rat := if p < 0 then -p else p
def maxA (p q : Rat) : Rat := if absR p < absR q then absR q else absR p
def within (c p q : Rat) : Prop := absR (p - q) ≤ c * maxA p q
instance (c p q : Rat) : Decidable (within c p q) := inferInstanceAs (Decidable (_ ≤ _))
end Go.FL
/-
  Plain laws, rat 10: RatCompares, the reference's side and the law.
-/
namespace Go.FL
open Go Go.Proofs

end Go.FL
/-
  GP: the law RatPowers.
-/
namespace Go.FL
open Go Go.Proofs

end Go.FL
/-
  Plain laws, rat 11: powers, RatPowers.
-/
namespace Go.FL
open Go Go.Proofs

theorem equal_digs {m n : Nat} (hm : (digs m).length ≤ 1048576) (hn : (digs n).length ≤ 1048576) : sEqualL (digs m) (digs n) = some (decide (m = n)) := by
  rw [equalL_eq (okL_digs hm) (okL_digs (by omega))]
  congr 1
  exact decide_eq_decide.2 ⟨digs_inj, fun h => by rw [h]⟩
end Go.FL
/-
  GP: the law TopField.
-/
namespace Go.FL
open Go Go.Proofs

end Go.FL
/-
  Plain laws, rat 12: printing a number, TopField.
-/
namespace Go.FL
open Go Go.Proofs

theorem nPrint_eq {n : Nat} (h : (digs n).length ≤ 1048576) : nPrint (digs n) = some (bstr (decT n)) := by
  unfold nPrint; rw [if_pos (okL_digs h), val_digs]
/-- The text of a number. -/
def txtQ (p : Rat) : List Nat := (if p.num < 0 then [194, 175] else []) ++ (decT p.num.natAbs ++ (if p.den = 1 then [] else 114 :: decT p.den))
theorem sap_eq {a b : List Nat} (h : a.length + b.length ≤ 100000) : sap? (bstr a) (bstr b) = some (bstr (a ++ b)) := by
  unfold sap?
  rw [if_pos, bstr_append]
  have h1 : ∀ l : List Nat, (bstr l).size = l.length := fun l => by simp [bstr, ByteArray.size]
  rw [h1, h1]; exact Nat.le_trans h (by decide)
theorem small_lt {n : Nat} (h : small n) : n < 4294967296 ^ 32 := by
  have := val_lt (digs_ok n)
  rw [val_digs] at this
  exact Nat.lt_of_lt_of_le this (Nat.pow_le_pow_right (by decide) h)
set_option exponentiation.threshold 2000 in
theorem small_dec {n : Nat} (h : small n) : (decT n).length ≤ 310 := decT_len (k := 309) (Nat.lt_trans (small_lt h) (by decide))
theorem print_q {p : Rat} (hp : fits p) : rat_Print (ofQ p) = some (bstr (txtQ p)) := by
  unfold rat_Print
  have l1 := small_dec hp.1
  have l2 := small_dec hp.2
  have e1 : nPrint (ofQ p).2.1 = some (bstr (decT p.num.natAbs)) := nPrint_eq (Nat.le_trans hp.1 (by decide))
  have e2 : nPrint (ofQ p).2.2 = some (bstr (decT p.den)) := nPrint_eq (Nat.le_trans hp.2 (by decide))
  have e3 : sEqualL (ofQ p).2.2 [1] = some (decide (p.den = 1)) := by rw [← one_digs]; exact equal_digs (Nat.le_trans hp.2 (by decide)) (by rw [one_digs]; decide)
  have s1 : sap? (⟨#[194, 175]⟩ : ByteArray) (bstr (decT p.num.natAbs)) = some (bstr ([194, 175] ++ decT p.num.natAbs)) := sap_eq (a := [194, 175]) (by simp; omega)
  have s2 : sap? (⟨#[114]⟩ : ByteArray) (bstr (decT p.den)) = some (bstr ([114] ++ decT p.den)) := sap_eq (a := [114]) (by simp; omega)
  rw [ratRight_eq (ofQ_okRB hp), ofQ_right hp, Option.bind_some, if_pos rfl, e1, Option.bind_some, ratOne_eq]
  show (if decide (p.num < 0) = true then _ else _) = _
  unfold txtQ
  by_cases hs : p.num < 0
  · rw [if_pos (decide_eq_true hs), s1, Option.bind_some, Option.bind_some, e3, Option.bind_some, if_pos hs]
    by_cases hd : p.den = 1
    · rw [if_pos (decide_eq_true hd), if_pos hd, List.append_nil]
    · rw [if_neg (by simpa using hd), e2, Option.bind_some, s2, Option.bind_some, sap_eq (by simp; omega), Option.bind_some, if_neg hd, List.append_assoc]; rfl
  · rw [if_neg (by simpa using hs), Option.bind_some, e3, Option.bind_some, if_neg hs, List.nil_append]
    by_cases hd : p.den = 1
    · rw [if_pos (decide_eq_true hd), if_pos hd, List.append_nil]
    · rw [if_neg (by simpa using hd), e2, Option.bind_some, s2, Option.bind_some, sap_eq (by simp; omega), Option.bind_some, if_neg hd]; rfl
end Go.FL
/-
  GP: the law RatPascal.
-/
namespace Go.FL
open Go Go.Proofs

end Go.FL
/-
  Plain laws, rat 13: RatPascal.
-/
namespace Go.FL
open Go Go.Proofs

/-- The number of ways to choose. -/
def ch : Nat → Nat → Nat
  | _, 0 => 1
  | 0, _ + 1 => 0
  | n + 1, k + 1 => ch n k + ch n (k + 1)
theorem few {n : Nat} (h : n < 4294967296) (k : Nat) : (digs n).length ≤ k + 1 := Nat.le_trans (few_len h) (by omega)
end Go.FL
/-
  GP: the law RatTexts.
-/
namespace Go.FL
open Go Go.Proofs

end Go.FL
/-
  Plain laws, rat 15: reading a text.
-/
namespace Go.FL
open Go Go.Proofs

end Go.FL
/-
  Plain laws, rat 16: reading a text, the reference's side.
-/
namespace Go.FL
open Go Go.Proofs

theorem ref_print_q {p : Rat} (hp : fits p) : ref02_Print (ofQ p) = some (bstr (txtQ p)) := by
  unfold ref02_Print
  have l1 := small_dec hp.1
  have l2 := small_dec hp.2
  have r1P : ∀ {n : Nat}, (digs n).length ≤ 100000 → r1Print (digs n) = some (bstr (decT n)) := fun {n} h => by unfold r1Print; rw [if_pos (okL_digs h), val_digs]
  have e1 : r1Print (ofQ p).2.1 = some (bstr (decT p.num.natAbs)) := r1P (Nat.le_trans hp.1 (by decide))
  have e2 : r1Print (ofQ p).2.2 = some (bstr (decT p.den)) := r1P (Nat.le_trans hp.2 (by decide))
  have e3 : r1Same (ofQ p).2.2 [1] = some (decide (p.den = 1)) := by
    unfold r1Same
    rw [if_pos (show (ofQ p).2.2.length ≤ 35184372087808 from Nat.le_trans hp.2 (by decide)), ← one_digs]
    congr 1
    exact decide_eq_decide.2 ⟨digs_inj, fun h => by show digs p.den = digs 1; rw [h]⟩
  have s1 : sap? (⟨#[194, 175]⟩ : ByteArray) (bstr (decT p.num.natAbs)) = some (bstr ([194, 175] ++ decT p.num.natAbs)) := sap_eq (a := [194, 175]) (by simp; omega)
  have s2 : sap? (⟨#[114]⟩ : ByteArray) (bstr (decT p.den)) = some (bstr ([114] ++ decT p.den)) := sap_eq (a := [114]) (by simp; omega)
  rw [ref2Right_eq (ofQ_okRB hp), ofQ_right hp, Option.bind_some, if_pos rfl, e1, Option.bind_some, ref2One_eq]
  show (if decide (p.num < 0) = true then _ else _) = _
  unfold txtQ
  by_cases hs : p.num < 0
  · rw [if_pos (decide_eq_true hs), s1, Option.bind_some, Option.bind_some, e3, Option.bind_some, if_pos hs]
    by_cases hd : p.den = 1
    · rw [if_pos (decide_eq_true hd), if_pos hd, List.append_nil]
    · rw [if_neg (by simpa using hd), e2, Option.bind_some, s2, Option.bind_some, sap_eq (by simp; omega), Option.bind_some, if_neg hd, List.append_assoc]; rfl
  · rw [if_neg (by simpa using hs), Option.bind_some, e3, Option.bind_some, if_neg hs, List.nil_append]
    by_cases hd : p.den = 1
    · rw [if_pos (decide_eq_true hd), if_pos hd, List.append_nil]
    · rw [if_neg (by simpa using hd), e2, Option.bind_some, s2, Option.bind_some, sap_eq (by simp; omega), Option.bind_some, if_neg hd]; rfl
end Go.FL
/-
  GP: glyphlaw14: live, where.
-/
namespace Go.FL
open Go Go.Proofs

def law14_live : Option (Bool) := ((report_Lines 5 (ByteArray.empty, 0, (⟨#[49, 32, 50, 43, 49, 32, 50, 32, 51]⟩ : ByteArray), 3)).bind fun x1 => (Option.bind ((if ((List.length x1 : Nat) : Int) = 3 then ((rd? x1 0).bind fun x3 => (if x3 = (⟨#[76, 69, 78, 71, 84, 72, 32, 69, 82, 82, 79, 82]⟩ : ByteArray) then ((rd? x1 1).bind fun x4 => (if x4 = (⟨#[32, 32, 32, 32, 32, 32, 49, 32, 50, 43, 49, 32, 50, 32, 51]⟩ : ByteArray) then ((rd? x1 2).bind fun x5 => (some (decide (x5 = (⟨#[32, 32, 32, 32, 32, 32, 32, 32, 32, 94]⟩ : ByteArray))))) else (some false))) else (some false))) else (some false)) : Option (Bool)) fun (z2 : Bool) => (some (z2))))
theorem law14_live_ok {r : Bool} (h : law14_live = some r) :
    Fn Try.prog 25 [] (.d (.b r)) := by
  unfold law14_live at h
  refine Fn.of (rs := [.tmp 0]) (nt := 25) Try.func25 rfl rfl rfl (by simp) rfl ?_
  refine .seq ?_
  refine .region ?_
  refine asd ?_
  refine rn ?_
  refine .gh (Gh.keep [0] rfl) ?_
  refine .seq ?_
  refine .region ?_
  refine vk (vbd gP_W gI_W gZ_W) ?_
  obtain ⟨x1, hx1, h⟩ := bnd h
  refine vk (vcl0 (report_Lines_ok hx1) Try.call27) ?_
  refine asd ?_
  refine rn ?_
  refine .gh (Gh.keep [0, 1] rfl) ?_
  refine .seq ?_
  obtain ⟨z2, hz, h⟩ := bnd h
  refine AW.mr (σ := Unit) (fun _ => True) (fun _ => [(0, .d (.b z2))]) (fun _ => []) ?_ ?_
  · skip
    refine .region ?_
    refine vk (vmvd) ?_
    refine vk (vlnE (Ss_length _) (Ss_sz _) gu_Ss) ?_
    refine vk (vbi) ?_
    by_cases hc : ((List.length x1 : Nat) : Int) = 3
    · replace hz := ite_t hc hz
      have hb0 : (decide (((List.length x1 : Nat) : Int) = 3)) = true := (decide_eq_true hc)
      refine vk (VOK.lit (vmvd) hb0) ?_
      refine vk (vmvd) ?_
      obtain ⟨x3, hx3, hz⟩ := bnd hz
      obtain ⟨nx3, hnx3, hxx3⟩ := rd_some hx3
      refine vk (vix nx3 hnx3 (Ss_at hxx3) rfl gs_Ss) ?_
      refine vk (vldp ga_string) ?_
      refine vk (vsq (.inl rfl)) ?_
      refine vk (vpkd) ?_
      by_cases hc : x3 = (⟨#[76, 69, 78, 71, 84, 72, 32, 69, 82, 82, 79, 82]⟩ : ByteArray)
      · replace hz := ite_t hc hz
        have hb1 : (decide (x3 = (⟨#[76, 69, 78, 71, 84, 72, 32, 69, 82, 82, 79, 82]⟩ : ByteArray))) = true := (decide_eq_true hc)
        refine vk (VOK.lit (vmvd) hb1) ?_
        refine vk (vmvd) ?_
        obtain ⟨x4, hx4, hz⟩ := bnd hz
        obtain ⟨nx4, hnx4, hxx4⟩ := rd_some hx4
        refine vk (vix nx4 hnx4 (Ss_at hxx4) rfl gs_Ss) ?_
        refine vk (vldp ga_string) ?_
        refine vk (vsq (.inl rfl)) ?_
        refine vk (vpkd) ?_
        by_cases hc : x4 = (⟨#[32, 32, 32, 32, 32, 32, 49, 32, 50, 43, 49, 32, 50, 32, 51]⟩ : ByteArray)
        · replace hz := ite_t hc hz
          have hb2 : (decide (x4 = (⟨#[32, 32, 32, 32, 32, 32, 49, 32, 50, 43, 49, 32, 50, 32, 51]⟩ : ByteArray))) = true := (decide_eq_true hc)
          refine vk (VOK.lit (vmvd) hb2) ?_
          refine vk (vmvd) ?_
          obtain ⟨x5, hx5, hz⟩ := bnd hz
          obtain ⟨nx5, hnx5, hxx5⟩ := rd_some hx5
          refine vk (vix nx5 hnx5 (Ss_at hxx5) rfl gs_Ss) ?_
          refine vk (vldp ga_string) ?_
          refine vk (vsq (.inl rfl)) ?_
          refine vk (vpkd) ?_
          refine asd ?_
          refine RL.gh (Gh.keep [0] rfl) ?_
          refine .nil ?_
          cases hz
          exact jr () trivial
        replace hz := ite_f hc hz
        have hb2 : (decide (x4 = (⟨#[32, 32, 32, 32, 32, 32, 49, 32, 50, 43, 49, 32, 50, 32, 51]⟩ : ByteArray))) = false := (decide_eq_false hc)
        refine vk (VOK.lit (vmvd) hb2) ?_
        refine gf ?_
        refine gf ?_
        refine gf ?_
        refine gf ?_
        refine vk (vpkd) ?_
        refine asd ?_
        refine RL.gh (Gh.keep [0] rfl) ?_
        refine .nil ?_
        cases hz
        exact jr () trivial
      replace hz := ite_f hc hz
      have hb1 : (decide (x3 = (⟨#[76, 69, 78, 71, 84, 72, 32, 69, 82, 82, 79, 82]⟩ : ByteArray))) = false := (decide_eq_false hc)
      refine vk (VOK.lit (vmvd) hb1) ?_
      refine gf ?_
      refine gf ?_
      refine gf ?_
      refine gf ?_
      refine vk (vpkd) ?_
      refine vk (vmvd) ?_
      refine gf ?_
      refine gf ?_
      refine gf ?_
      refine gf ?_
      refine vk (vpkd) ?_
      refine asd ?_
      refine RL.gh (Gh.keep [0] rfl) ?_
      refine .nil ?_
      cases hz
      exact jr () trivial
    replace hz := ite_f hc hz
    have hb0 : (decide (((List.length x1 : Nat) : Int) = 3)) = false := (decide_eq_false hc)
    refine vk (VOK.lit (vmvd) hb0) ?_
    refine gf ?_
    refine gf ?_
    refine gf ?_
    refine gf ?_
    refine vk (vpkd) ?_
    refine vk (vmvd) ?_
    refine gf ?_
    refine gf ?_
    refine gf ?_
    refine gf ?_
    refine vk (vpkd) ?_
    refine vk (vmvd) ?_
    refine gf ?_
    refine gf ?_
    refine gf ?_
    refine gf ?_
    refine vk (vpkd) ?_
    refine asd ?_
    refine RL.gh (Gh.keep [0] rfl) ?_
    refine .nil ?_
    cases hz
    exact jr () trivial
  rintro _ _
  refine .ret ?_
  cases h
  exact ⟨rfl, rfl⟩

end Go.FL
/-
  GP: the law ReportTexts.
-/
namespace Go.FL
open Go Go.Proofs

def law14_ReportTexts (a0 : Int) (a1 : ByteArray) : Option (Bool) := ((report_Parse a1).bind fun x1 => ((ref14_Parse a1).bind fun x2 => (law14_live.bind fun x3 => (Option.bind ((if x3 = true then ((report_Text a0).bind fun x5 => ((ref14_Text a0).bind fun x6 => (if x5 = x6 then (if x1.1 = x2.1 then (some (x1.2 == x2.2)) else (some false)) else (some false)))) else (some false)) : Option (Bool)) fun (z3 : Bool) => (some (z3))))))
theorem law14_ReportTexts_ok {a0 : Int} {a1 : ByteArray} {r : Bool} (h : law14_ReportTexts a0 a1 = some r) :
    Fn Try.prog 8 [.i .i64 a0, .s a1] (.d (.b r)) := by
  unfold law14_ReportTexts at h
  refine Fn.of (rs := [.tmp 4]) (nt := 37) Try.func8 rfl rfl rfl (by simp) rfl ?_
  refine .seq ?_
  refine .region ?_
  refine asd ?_
  refine rn ?_
  refine .gh (Gh.keep [0, 1, 4] rfl) ?_
  refine .seq ?_
  refine .region ?_
  refine vk (vmvd) ?_
  obtain ⟨x1, hx1, h⟩ := bnd h
  refine vk (VOK.tupd (vs := [.i .i64 x1.1, .b x1.2]) (vcl0 (report_Parse_ok hx1) Try.call42)) ?_
  refine vk (vmvd) ?_
  refine vk (vex) ?_
  refine vk (vex) ?_
  refine asd ?_
  refine asd ?_
  refine rn ?_
  refine .gh (Gh.keep [0, 1, 4, 5, 6] rfl) ?_
  refine .seq ?_
  refine .region ?_
  refine vk (vmvd) ?_
  obtain ⟨x2, hx2, h⟩ := bnd h
  refine vk (VOK.tupd (vs := [.i .i64 x2.1, .b x2.2]) (vcl0 (ref14_Parse_ok hx2) Try.call43)) ?_
  refine vk (vmvd) ?_
  refine vk (vex) ?_
  refine vk (vex) ?_
  refine asd ?_
  refine asd ?_
  refine rn ?_
  refine .gh (Gh.keep [0, 4, 5, 6, 7, 8] rfl) ?_
  refine .seq ?_
  obtain ⟨x3, hx3, h⟩ := bnd h
  obtain ⟨z3, hz, h⟩ := bnd h
  refine AW.mr (σ := Unit) (fun _ => True) (fun _ => [(4, .d (.b z3))]) (fun _ => []) ?_ ?_
  · skip
    refine .region ?_
    refine vk (vcl0 (law14_live_ok hx3) Try.call25) ?_
    by_cases hc : x3 = true
    · replace hz := ite_t hc hz
      have hb0 : x3 = true := hc
      refine vk (VOK.lit (vmvd) hb0) ?_
      refine vk (vmvd) ?_
      obtain ⟨x5, hx5, hz⟩ := bnd hz
      refine vk (vcl0 (report_Text_ok hx5) Try.call44) ?_
      refine vk (vmvd) ?_
      obtain ⟨x6, hx6, hz⟩ := bnd hz
      refine vk (vcl0 (ref14_Text_ok hx6) Try.call45) ?_
      refine vk (vsq (.inl rfl)) ?_
      refine vk (vpkd) ?_
      by_cases hc : x5 = x6
      · replace hz := ite_t hc hz
        have hb1 : (decide (x5 = x6)) = true := (decide_eq_true hc)
        refine vk (VOK.lit (vmvd) hb1) ?_
        refine vk (vmvd) ?_
        refine vk (vmvd) ?_
        refine vk (vbi) ?_
        refine vk (vpkd) ?_
        by_cases hc : x1.1 = x2.1
        · replace hz := ite_t hc hz
          have hb2 : (decide (x1.1 = x2.1)) = true := (decide_eq_true hc)
          refine vk (VOK.lit (vmvd) hb2) ?_
          refine vk (vmvd) ?_
          refine vk (vmvd) ?_
          refine vk (vbbn (.inl rfl) bo) ?_
          refine vk (vpkd) ?_
          refine asd ?_
          refine RL.gh (Gh.keep [4] rfl) ?_
          refine .nil ?_
          cases hz
          exact jr () trivial
        replace hz := ite_f hc hz
        have hb2 : (decide (x1.1 = x2.1)) = false := (decide_eq_false hc)
        refine vk (VOK.lit (vmvd) hb2) ?_
        refine gf ?_
        refine gf ?_
        refine gf ?_
        refine vk (vpkd) ?_
        refine asd ?_
        refine RL.gh (Gh.keep [4] rfl) ?_
        refine .nil ?_
        cases hz
        exact jr () trivial
      replace hz := ite_f hc hz
      have hb1 : (decide (x5 = x6)) = false := (decide_eq_false hc)
      refine vk (VOK.lit (vmvd) hb1) ?_
      refine gf ?_
      refine gf ?_
      refine gf ?_
      refine vk (vpkd) ?_
      refine vk (vmvd) ?_
      refine gf ?_
      refine gf ?_
      refine gf ?_
      refine vk (vpkd) ?_
      refine asd ?_
      refine RL.gh (Gh.keep [4] rfl) ?_
      refine .nil ?_
      cases hz
      exact jr () trivial
    replace hz := ite_f hc hz
    have hb0 : x3 = false := (bf hc)
    refine vk (VOK.lit (vmvd) hb0) ?_
    refine gf ?_
    refine gf ?_
    refine gf ?_
    refine gf ?_
    refine gf ?_
    refine vk (vpkd) ?_
    refine vk (vmvd) ?_
    refine gf ?_
    refine gf ?_
    refine gf ?_
    refine vk (vpkd) ?_
    refine vk (vmvd) ?_
    refine gf ?_
    refine gf ?_
    refine gf ?_
    refine vk (vpkd) ?_
    refine asd ?_
    refine RL.gh (Gh.keep [4] rfl) ?_
    refine .nil ?_
    cases hz
    exact jr () trivial
  rintro _ _
  refine .ret ?_
  cases h
  exact ⟨rfl, rfl⟩
end Go.FL
/-
  GP: the law ReportBack.
-/
namespace Go.FL
open Go Go.Proofs

end Go.FL
/-
  Plain laws of reports: ReportTexts, ReportBack.
-/
namespace Go.FL
open Go Go.Proofs

/-- The text of an error's number. -/
def numB (e : Int) : ByteArray := (⟨#[69, 82, 82, 79, 82, 32]⟩ : ByteArray) ++ bstr (txtQ (e : Rat))
def textB (e : Int) : ByteArray := if e = 0 then ⟨#[]⟩ else if e = 9 then ⟨#[73, 78, 84, 69, 82, 82, 85, 80, 84]⟩ else if wordB e = ⟨#[]⟩ then numB e else wordB e ++ (⟨#[32, 69, 82, 82, 79, 82]⟩ : ByteArray)
theorem word_size (e : Int) : (byts (wordB e)).length ≤ 100 := by
  have h : ∀ i : Fin 29, (byts (words.getD i.val ⟨#[]⟩)).length ≤ 100 := by decide +kernel
  unfold wordB
  split
  · by_cases hi : e.toNat < 29
    · exact h ⟨e.toNat, hi⟩
    · rw [List.getD_eq_getElem?_getD, List.getElem?_eq_none (by show 29 ≤ e.toNat; omega)]; exact Nat.zero_le _
  · exact Nat.zero_le _
theorem word_none {e : Int} (h : e ≤ 0 ∨ 9 ≤ e) (h2 : e ≠ 28) : wordB e = ⟨#[]⟩ := by
  have hw : ∀ i : Fin 29, (i.val = 0 ∨ 9 ≤ i.val) → i.val ≠ 28 → words.getD i.val ⟨#[]⟩ = ⟨#[]⟩ := by decide +kernel
  unfold wordB
  split
  · by_cases hi : e.toNat < 29
    · exact hw ⟨e.toNat, hi⟩ (by show e.toNat = 0 ∨ 9 ≤ e.toNat; omega) (by show e.toNat ≠ 28; omega)
    · rw [List.getD_eq_getElem?_getD, List.getElem?_eq_none (by show 29 ≤ e.toNat; omega)]; rfl
  · rfl
theorem txt_len {e : Int} (h1 : -9223372036854775808 ≤ e) (h2 : e ≤ 9223372036854775807) : (byts (bstr (txtQ (e : Rat)))).length ≤ 5000 := by
  have l1 := small_dec (fits_int h1 (by omega)).1
  rw [byts_length]
  have : (bstr (txtQ (e : Rat))).size = (txtQ (e : Rat)).length := by simp [bstr, ByteArray.size]
  rw [this]
  unfold txtQ
  rw [Rat.den_intCast, if_pos rfl, List.append_nil, List.length_append]
  have : (if (e : Rat).num < 0 then [194, 175] else ([] : List Nat)).length ≤ 2 := by split <;> simp
  omega
theorem number_eq {e : Int} (h1 : -9223372036854775808 ≤ e) (h2 : e ≤ 9223372036854775807) : report_number e = some (bstr (txtQ (e : Rat))) := by
  unfold report_number
  rw [ofInt_q h1 h2, Option.bind_some, print_q (fits_int h1 (by omega))]; rfl
theorem ref_number_eq {e : Int} (h1 : -9223372036854775808 ≤ e) (h2 : e ≤ 9223372036854775807) : ref14_number e = some (bstr (txtQ (e : Rat))) := by
  unfold ref14_number
  rw [ref_ofInt_q h1 h2, Option.bind_some, ref_print_q (fits_int h1 (by omega))]; rfl
theorem repWord_eq (e : Int) : repWord e = some (wordB e) := if_pos trivial
theorem text_eq {e : Int} (h1 : -9223372036854775808 ≤ e) (h2 : e ≤ 9223372036854775807) : report_Text e = some (textB e) := by
  unfold report_Text textB
  rw [repWord_eq, Option.bind_some]
  by_cases h0 : e = 0
  · rw [if_pos h0, if_pos h0]
  · rw [if_neg h0, if_neg h0]
    by_cases h9 : e = 9
    · rw [if_pos h9, if_pos h9]
    · rw [if_neg h9, if_neg h9]
      by_cases hw : wordB e = ⟨#[]⟩
      · have hl := txt_len h1 h2
        rw [if_pos hw, if_pos hw, number_eq h1 h2, Option.bind_some, sap_ok (Nat.le_trans (Nat.add_le_add_left hl _) (by decide))]; rfl
      · rw [if_neg hw, if_neg hw, sap_ok (Nat.le_trans (Nat.add_le_add_right (word_size e) _) (by decide))]; rfl
def rwords : List ByteArray := [(⟨#[]⟩ : ByteArray), (⟨#[83, 89, 78, 84, 65, 88, 32, 69, 82, 82, 79, 82]⟩ : ByteArray), (⟨#[86, 65, 76, 85, 69, 32, 69, 82, 82, 79, 82]⟩ : ByteArray), (⟨#[68, 79, 77, 65, 73, 78, 32, 69, 82, 82, 79, 82]⟩ : ByteArray), (⟨#[82, 65, 78, 75, 32, 69, 82, 82, 79, 82]⟩ : ByteArray), (⟨#[76, 69, 78, 71, 84, 72, 32, 69, 82, 82, 79, 82]⟩ : ByteArray), (⟨#[73, 78, 68, 69, 88, 32, 69, 82, 82, 79, 82]⟩ : ByteArray), (⟨#[65, 88, 73, 83, 32, 69, 82, 82, 79, 82]⟩ : ByteArray), (⟨#[76, 73, 77, 73, 84, 32, 69, 82, 82, 79, 82]⟩ : ByteArray), (⟨#[73, 78, 84, 69, 82, 82, 85, 80, 84]⟩ : ByteArray)]
theorem rwords_eq : ref14_words = some rwords := rfl
theorem rw_at (i : Nat) (h : i ≤ 9) : rd? rwords (i : Int) = some (textB i) := by
  match i, h with
  | 0, _ => exact (by kernel_rfl : rd? rwords ((0 : Nat) : Int) = some (textB ((0 : Nat) : Int)))
  | 1, _ => exact (by kernel_rfl : rd? rwords ((1 : Nat) : Int) = some (textB ((1 : Nat) : Int)))
  | 2, _ => exact (by kernel_rfl : rd? rwords ((2 : Nat) : Int) = some (textB ((2 : Nat) : Int)))
  | 3, _ => exact (by kernel_rfl : rd? rwords ((3 : Nat) : Int) = some (textB ((3 : Nat) : Int)))
  | 4, _ => exact (by kernel_rfl : rd? rwords ((4 : Nat) : Int) = some (textB ((4 : Nat) : Int)))
  | 5, _ => exact (by kernel_rfl : rd? rwords ((5 : Nat) : Int) = some (textB ((5 : Nat) : Int)))
  | 6, _ => exact (by kernel_rfl : rd? rwords ((6 : Nat) : Int) = some (textB ((6 : Nat) : Int)))
  | 7, _ => exact (by kernel_rfl : rd? rwords ((7 : Nat) : Int) = some (textB ((7 : Nat) : Int)))
  | 8, _ => exact (by kernel_rfl : rd? rwords ((8 : Nat) : Int) = some (textB ((8 : Nat) : Int)))
  | 9, _ => exact (by kernel_rfl : rd? rwords ((9 : Nat) : Int) = some (textB ((9 : Nat) : Int)))
  | n + 10, h => omega
theorem text28 : textB 28 = ⟨#[68, 69, 70, 78, 32, 69, 82, 82, 79, 82]⟩ := by kernel_rfl
theorem ref_text_eq {e : Int} (h1 : -9223372036854775808 ≤ e) (h2 : e ≤ 9223372036854775807) : ref14_Text e = some (textB e) := by
  unfold ref14_Text
  rw [rwords_eq]
  by_cases hr : 0 ≤ e ∧ e ≤ 9
  · obtain ⟨i, rfl⟩ : ∃ i : Nat, e = (i : Int) := ⟨e.toNat, by omega⟩
    rw [if_pos hr.1, Option.bind_some, Option.bind_some, if_pos (by rw [decide_eq_true_eq]; show (i : Int) < 10; omega), Option.bind_some, rw_at i (by omega)]; rfl
  · have hz : (if 0 ≤ e then ((some rwords).bind fun x2 => (some (decide (e < ((List.length x2 : Nat) : Int))))) else (some false)) = some false := by
      split
      · rw [Option.bind_some]
        congr 1
        rw [decide_eq_false_iff_not]
        show ¬ e < 10
        omega
      · rfl
    rw [hz, Option.bind_some, if_neg (by decide)]
    by_cases h28 : e = 28
    · subst h28; rw [if_pos rfl, text28]
    · have hl := txt_len h1 h2
      have hw := word_none (e := e) (by omega) h28
      rw [if_neg h28, ref_number_eq h1 h2, Option.bind_some, sap_ok (Nat.le_trans (Nat.add_le_add_left hl _) (by decide))]
      unfold textB
      rw [if_neg (by omega), if_neg (by omega), if_pos hw]; rfl
/-- Which error a text tells: from e on. -/
def pf (s : ByteArray) : Nat → Nat → Int × Bool
  | 0, _ => (0, false)
  | d + 1, e => if (e ≤ 9 ∨ e = 28) ∧ s = textB e then ((e : Int), true) else pf s d (e + 1)
theorem pf_mid (s : ByteArray) : ∀ (d e : Nat), 10 ≤ e → e ≤ 28 → d = 29 - e → pf s d e = if s = textB 28 then (28, true) else (0, false)
  | 0, e, h1, h2, h3 => by omega
  | d + 1, e, h1, h2, h3 => by
    rw [pf]
    by_cases he : e = 28
    · subst he
      have hd : d = 0 := by omega
      subst hd
      by_cases h : s = textB 28
      · rw [if_pos ⟨.inr rfl, h⟩, if_pos h]; rfl
      · rw [if_neg (fun x => h x.2), if_neg h]; rfl
    · rw [if_neg (fun x => by omega)]
      exact pf_mid s d (e + 1) (by omega) (by omega) (by omega)
theorem parse_from (s : ByteArray) : ∀ (d e k : Nat) (r : Int) (b : Bool), d = 29 - e → e ≤ 29 → d < k → report_Parse_l0 s k r b e = some (pf s d e)
  | 0, e, k, r, b, h1, h2, h3 => by
    obtain ⟨k, rfl⟩ : ∃ m, k = m + 1 := ⟨k - 1, by omega⟩
    rw [report_Parse_l0, if_neg (by omega)]; rfl
  | d + 1, e, k, r, b, h1, h2, h3 => by
    obtain ⟨k, rfl⟩ : ∃ m, k = m + 1 := ⟨k - 1, by omega⟩
    rw [report_Parse_l0, if_pos (by omega), text_eq (by omega) (by omega), Option.bind_some, pf]
    by_cases h : (e ≤ 9 ∨ e = 28) ∧ s = textB e
    · rw [if_pos h, if_pos]
      rw [Bool.and_eq_true, Bool.or_eq_true, decide_eq_true_eq, decide_eq_true_eq, decide_eq_true_eq]
      exact ⟨h.2, by omega⟩
    · rw [if_neg h, if_neg, show w64 ((e : Int) + 1) = ((e + 1 : Nat) : Int) by rw [w64_eq (by omega) (by omega)]; rfl]
      · exact parse_from s d (e + 1) k r b (by omega) (by omega) (by omega)
      · rw [Bool.and_eq_true, Bool.or_eq_true, decide_eq_true_eq, decide_eq_true_eq, decide_eq_true_eq]
        rintro ⟨x1, x2⟩
        exact h ⟨by omega, x1⟩
theorem fuel_big : 1000 < FUEL := by unfold FUEL; omega
theorem rparse_eq (s : ByteArray) : report_Parse s = some (pf s 28 1) := parse_from s 28 1 FUEL 0 false rfl (by decide) (Nat.lt_trans (by decide) fuel_big)
theorem ref_from (s : ByteArray) : ∀ (d e k : Nat) (r : Int) (b : Bool), d = 10 - e → e ≤ 10 → d < k → ref14_Parse_l0 s rwords k r b e = some (pf s (29 - e) e)
  | 0, e, k, r, b, h1, h2, h3 => by
    obtain ⟨k, rfl⟩ : ∃ m, k = m + 1 := ⟨k - 1, by omega⟩
    have he : e = 10 := by omega
    subst he
    rw [ref14_Parse_l0, if_neg (by show ¬ ((10 : Nat) : Int) < ((10 : Nat) : Int); omega), pf_mid s 19 10 (by decide) (by decide) (by decide), text28]
    split <;> rfl
  | d + 1, e, k, r, b, h1, h2, h3 => by
    obtain ⟨k, rfl⟩ : ∃ m, k = m + 1 := ⟨k - 1, by omega⟩
    obtain ⟨g, hg⟩ : ∃ g, 29 - e = g + 1 := ⟨28 - e, by omega⟩
    rw [ref14_Parse_l0, if_pos (by show (e : Int) < ((10 : Nat) : Int); omega), rw_at e (by omega), Option.bind_some, hg, pf]
    by_cases h : textB e = s
    · rw [if_pos h, if_pos ⟨.inl (by omega), h.symm⟩]
    · rw [if_neg h, if_neg (fun x => h x.2.symm), show w64 ((e : Int) + 1) = ((e + 1 : Nat) : Int) by rw [w64_eq (by omega) (by omega)]; rfl, ref_from s d (e + 1) k r b (by omega) (by omega) (by omega), show 29 - (e + 1) = g by omega]
theorem ref_rparse_eq (s : ByteArray) : ref14_Parse s = some (pf s 28 1) := by
  unfold ref14_Parse
  rw [rwords_eq, Option.bind_some]
  exact ref_from s 9 1 FUEL 0 false rfl (by decide) (Nat.lt_trans (by decide) fuel_big)
theorem lv_a : report_width ⟨#[49, 32, 50, 43, 49, 32, 50, 32, 51]⟩ = some 9 := by kernel_rfl
theorem lv_b : report_Prefix (ByteArray.empty, 0, (⟨#[49, 32, 50, 43, 49, 32, 50, 32, 51]⟩ : ByteArray), 3) = some ⟨#[32, 32, 32, 32, 32, 32]⟩ := by kernel_rfl
theorem lv_c : report_Text 5 = some ⟨#[76, 69, 78, 71, 84, 72, 32, 69, 82, 82, 79, 82]⟩ := by kernel_rfl
theorem lv_d : report_width ⟨#[32, 32, 32, 32, 32, 32]⟩ = some 6 := by kernel_rfl
theorem lv_f : report_Lines 5 (ByteArray.empty, 0, (⟨#[49, 32, 50, 43, 49, 32, 50, 32, 51]⟩ : ByteArray), 3) = some [⟨#[76, 69, 78, 71, 84, 72, 32, 69, 82, 82, 79, 82]⟩, ⟨#[32, 32, 32, 32, 32, 32, 49, 32, 50, 43, 49, 32, 50, 32, 51]⟩, ⟨#[32, 32, 32, 32, 32, 32, 32, 32, 32, 94]⟩] := by
  unfold report_Lines
  rw [if_neg (by decide)]
  refine bind_eq lv_a ?_
  refine bind_eq lv_b ?_
  refine bind_eq lv_c ?_
  refine bind_eq (a := ⟨#[32, 32, 32, 32, 32, 32, 49, 32, 50, 43, 49, 32, 50, 32, 51]⟩) (by kernel_rfl) ?_
  refine bind_eq lv_d ?_
  refine bind_eq (a := ⟨#[32, 32, 32, 32, 32, 32, 32, 32, 32]⟩) (by kernel_rfl) ?_
  exact bind_eq (a := ⟨#[32, 32, 32, 32, 32, 32, 32, 32, 32, 94]⟩) (by kernel_rfl) rfl
theorem live14 : law14_live = some true := by
  unfold law14_live
  exact bind_eq lv_f (by kernel_rfl)
theorem lawRTexts {e : Int} {s : ByteArray} (he : (Lit.int .i64 e).wf = true) (_hs : s.size ≤ reachBytes) : law14_ReportTexts e s = some true := by
  unfold law14_ReportTexts
  have hb : -9223372036854775808 ≤ e ∧ e ≤ 9223372036854775807 := by
    simp only [Lit.wf, IntKind.min, IntKind.max, IntKind.bits, IntKind.signed] at he
    simp at he; omega
  rw [rparse_eq, Option.bind_some, ref_rparse_eq, Option.bind_some, live14, Option.bind_some, if_pos rfl, text_eq hb.1 hb.2, Option.bind_some, ref_text_eq hb.1 hb.2, Option.bind_some, if_pos rfl, if_pos rfl, Option.bind_some]
  simp
end Go.FL
/-
  The statement ReportTextsSaid: for every input the law gives true, and each argument reads as it read before.
-/
namespace Go.Proofs.Ytcoofpnbnifbbaa.reportTexts
open Go.ChangeShapes Go.WideShapes Go.ChangeAt Go.RowKit Go.FL

theorem own : ownKnob Try.prog.godebug = none := by kernel_rfl
theorem laid : laidOutB Try.prog = true := by kernel_rfl
theorem params : ∀ t ∈ Try.f8.params.toList, Try.prog.readableRec t = true ∧ t < Try.prog.types.size := by
  intro t ht
  simp only [Try.params8, List.mem_cons, List.not_mem_nil, or_false] at ht
  rcases ht with rfl | rfl <;> exact ⟨by kernel_rfl, of_decide_eq_true (by kernel_rfl)⟩
set_option maxRecDepth 100000 in
theorem lifted (os : Os) (started : os.Started) (H : Type) (enc : TypeId × Value → H) :
    ReturnsInHanded {} Try.checked os 8 .any (Rows.reportTextsSpec.pre6 enc Try.prog Try.f8 Rows.reportTextsRow.domain false) (Rows.reportTextsSpec.post enc Try.prog Try.f8 false true false false) := by
  refine returnsInHanded_of_change_sized (C := Try.checked) own started (by kernel_rfl) Try.func8
    (ChangeSpec.witness6 (enc := enc) (C := Try.checked) false ⟨#[], #[.int .i64 0, .string ByteArray.empty], []⟩ 8 (by kernel_rfl) (by kernel_rfl) (by kernel_rfl) (by kernel_rfl)) ?_
  intro W base args ds gs before hval0 hW hcnd hsz _
  have hval : ∀ (j : Nat) t v, Try.f8.params[j]? = some t → args[j]? = some v → Value.okWide Try.prog W .any base t v := hval0
  have hW' := hW
  obtain ⟨p, q, hA0, hV, rfl, hfz, hnd⟩ := hW
  have hA : DataW.TrodAll enc Try.prog W 0 (fun _ => true) true Try.f8.params.toList args.toList ds p := hA0
  rw [Try.params8] at hA hval
  obtain ⟨v0, vs0, d0, ds0, p0, q0, hargs, rfl, rfl, h0, r0⟩ := trodAll_cons hA
  obtain ⟨v1, vs1, d1, ds1, p1, q1, rfl, rfl, rfl, h1, r1⟩ := trodAll_cons r0
  obtain ⟨rfl, rfl, rfl⟩ := trodAll_nil r1
  obtain rfl : args = #[v0, v1] := by cases args; simp_all
  obtain ⟨rfl, rfl⟩ := trodVars_none hV
  rw [Try.params8] at hsz
  have w0 : ∀ m ∈ DataW.weights Try.prog 29 d0, m ≤ reachBytes := fun m hm => by simpa using List.all_eq_true.1 hsz m (DataW.weights_mem_each (j := 0) rfl rfl m hm)
  obtain ⟨a0, o0, e0⟩ := arg_int (by kernel_rfl : Try.prog.underlying 29 = some (.int .i64)) (hval 0 29 v0 rfl rfl) h0
  have w1 : ∀ m ∈ DataW.weights Try.prog 9 d1, m ≤ reachBytes := fun m hm => by simpa using List.all_eq_true.1 hsz m (DataW.weights_mem_each (j := 1) rfl rfl m hm)
  obtain ⟨a1, o1, e1⟩ := arg_cell (v := v1) op_str (by obtain ⟨s0, hs0, _⟩ := Go.ChangeMaps.open_string Try.underlying9 (hval 1 9 v1 rfl rfl) h1; subst hs0; rfl) h1 w1
  refine (law_calls (law14_ReportTexts_ok (lawRTexts o0 o1)) (.cons e0 (.cons e1 .nil))).mono fun e W' ⟨he, hb⟩ => ?_
  subst he
  exact ⟨_, rfl, post_law hW' rfl (fun _ => rfl) rfl Try.underlying4 laid params hb⟩

theorem over : Rows.reportTextsRow.holds Try.pinned (OpenSpec.ofChange Rows.reportTextsSpec) :=
  OpenClaim.holds_of_wide 8 Try.f8 rfl rfl rfl rfl rfl rfl rfl ⟨rfl, rfl, rfl, rfl, rfl⟩ rfl rfl rfl rfl rfl (by kernel_rfl) Try.func8 (by kernel_rfl)
    (of_decide_eq_true (by kernel_rfl)) (by unfold Func.isWrapper; first | (rw [if_pos (by decide +kernel)]; kernel_rfl) | (rw [if_neg (by decide +kernel)]; exact ⟨rfl, rfl⟩))
    (fun os started H enc _ => lifted os started H enc)

theorem proved : Rows.ReportTextsSaid :=
  over
end Go.Proofs.Ytcoofpnbnifbbaa.reportTexts
