/-
  The law: its function printed as a pure function, its contract, the plain law, the statement
-/
import Derived.Test.YtcoofpnbnifbbaaRaD
import Derived.Test.YtcoofpnbnifbbaaRows
set_option linter.unusedVariables false
/-
  GP: the law RatMakes.
-/
namespace Go.FL
open Go Go.Proofs

end Go.FL
/-
  GP: the law RatReckons.
-/
namespace Go.FL
open Go Go.Proofs

end Go.FL
/-
  GP: the law RatOrders.
-/
namespace Go.FL
open Go Go.Proofs

end Go.FL
/-
  GP: the law RatRounds.
-/
namespace Go.FL
open Go Go.Proofs

end Go.FL
/-
  Plain laws, rat 7: RatMakes, RatReckons, RatOrders, RatRounds.
-/
namespace Go.FL
open Go Go.Proofs

end Go.FL
/-
  GP: the law RatBack.
-/
namespace Go.FL
open Go Go.Proofs

end Go.FL
/-
  GP: the law RatResidues.
-/
namespace Go.FL
open Go Go.Proofs

end Go.FL
/-
  Plain laws, rat 8: RatBack, RatResidues.
-/
namespace Go.FL
open Go Go.Proofs

end Go.FL
/-
  GP: the law RatCompares.
-/
namespace Go.FL
open Go Go.Proofs

end Go.FL
/-
  Plain laws, rat 9: RatCompares.
-/
namespace Go.FL
open Go Go.Proofs

def absR (p : Rat) : Rat := if p < 0 then -p else p
def maxA (p q : Rat) : Rat := if absR p < absR q then absR q else absR p
def within (c p q : Rat) : Prop := absR (p - q) ≤ c * maxA p q
instance (c p q : Rat) : Decidable (within c p q) := inferInstanceAs (Decidable (_ ≤ _))
end Go.FL
/-
  Plain laws, rat 10: RatCompares, the reference's side and the law.
-/
namespace Go.FL
open Go Go.Proofs

end Go.FL
/-
  GP: the law RatPowers.
-/
namespace Go.FL
open Go Go.Proofs

end Go.FL
/-
  Plain laws, rat 11: powers, RatPowers.
-/
namespace Go.FL
open Go Go.Proofs

theorem equal_digs {m n : Nat} (hm : (digs m).length ≤ 1048576) (hn : (digs n).length ≤ 1048576) : sEqualL (digs m) (digs n) = some (decide (m = n)) := by
  rw [equalL_eq (okL_digs hm) (okL_digs (by omega))]
  congr 1
  exact decide_eq_decide.2 ⟨digs_inj, fun h => by rw [h]⟩
end Go.FL
/-
  GP: the law TopField.
-/
namespace Go.FL
open Go Go.Proofs

end Go.FL
/-
  Plain laws, rat 12: printing a number, TopField.
-/
namespace Go.FL
open Go Go.Proofs

theorem nPrint_eq {n : Nat} (h : (digs n).length ≤ 1048576) : nPrint (digs n) = some (bstr (decT n)) := by
  unfold nPrint; rw [if_pos (okL_digs h), val_digs]
/-- The text of a number. -/
def txtQ (p : Rat) : List Nat := (if p.num < 0 then [194, 175] else []) ++ (decT p.num.natAbs ++ (if p.den = 1 then [] else 114 :: decT p.den))
theorem sap_eq {a b : List Nat} (h : a.length + b.length ≤ 100000) : sap? (bstr a) (bstr b) = some (bstr (a ++ b)) := by
  unfold sap?
  rw [if_pos, bstr_append]
  have h1 : ∀ l : List Nat, (bstr l).size = l.length := fun l => by simp [bstr, ByteArray.size]
  rw [h1, h1]; exact Nat.le_trans h (by decide)
theorem small_lt {n : Nat} (h : small n) : n < 4294967296 ^ 32 := by
  have := val_lt (digs_ok n)
  rw [val_digs] at this
  exact Nat.lt_of_lt_of_le this (Nat.pow_le_pow_right (by decide) h)
set_option exponentiation.threshold 2000 in
theorem small_dec {n : Nat} (h : small n) : (decT n).length ≤ 310 := decT_len (k := 309) (Nat.lt_trans (small_lt h) (by decide))
theorem print_q {p : Rat} (hp : fits p) : rat_Print (ofQ p) = some (bstr (txtQ p)) := by
  unfold rat_Print
  have l1 := small_dec hp.1
  have l2 := small_dec hp.2
  have e1 : nPrint (ofQ p).2.1 = some (bstr (decT p.num.natAbs)) := nPrint_eq (Nat.le_trans hp.1 (by decide))
  have e2 : nPrint (ofQ p).2.2 = some (bstr (decT p.den)) := nPrint_eq (Nat.le_trans hp.2 (by decide))
  have e3 : sEqualL (ofQ p).2.2 [1] = some (decide (p.den = 1)) := by rw [← one_digs]; exact equal_digs (Nat.le_trans hp.2 (by decide)) (by rw [one_digs]; decide)
  have s1 : sap? (⟨#[194, 175]⟩ : ByteArray) (bstr (decT p.num.natAbs)) = some (bstr ([194, 175] ++ decT p.num.natAbs)) := sap_eq (a := [194, 175]) (by simp; omega)
  have s2 : sap? (⟨#[114]⟩ : ByteArray) (bstr (decT p.den)) = some (bstr ([114] ++ decT p.den)) := sap_eq (a := [114]) (by simp; omega)
  rw [ratRight_eq (ofQ_okRB hp), ofQ_right hp, Option.bind_some, if_pos rfl, e1, Option.bind_some, ratOne_eq]
  show (if decide (p.num < 0) = true then _ else _) = _
  unfold txtQ
  by_cases hs : p.num < 0
  · rw [if_pos (decide_eq_true hs), s1, Option.bind_some, Option.bind_some, e3, Option.bind_some, if_pos hs]
    by_cases hd : p.den = 1
    · rw [if_pos (decide_eq_true hd), if_pos hd, List.append_nil]
    · rw [if_neg (by simpa using hd), e2, Option.bind_some, s2, Option.bind_some, sap_eq (by simp; omega), Option.bind_some, if_neg hd, List.append_assoc]; rfl
  · rw [if_neg (by simpa using hs), Option.bind_some, e3, Option.bind_some, if_neg hs, List.nil_append]
    by_cases hd : p.den = 1
    · rw [if_pos (decide_eq_true hd), if_pos hd, List.append_nil]
    · rw [if_neg (by simpa using hd), e2, Option.bind_some, s2, Option.bind_some, sap_eq (by simp; omega), Option.bind_some, if_neg hd]; rfl
end Go.FL
/-
  GP: the law RatPascal.
-/
namespace Go.FL
open Go Go.Proofs

end Go.FL
/-
  Plain laws, rat 13: RatPascal.
-/
namespace Go.FL
open Go Go.Proofs

/-- The number of ways to choose. -/
def ch : Nat → Nat → Nat
  | _, 0 => 1
  | 0, _ + 1 => 0
  | n + 1, k + 1 => ch n k + ch n (k + 1)
theorem few {n : Nat} (h : n < 4294967296) (k : Nat) : (digs n).length ≤ k + 1 := Nat.le_trans (few_len h) (by omega)
end Go.FL
/-
  GP: the law RatTexts.
-/
namespace Go.FL
open Go Go.Proofs

end Go.FL
/-
  Plain laws, rat 15: reading a text.
-/
namespace Go.FL
open Go Go.Proofs

end Go.FL
/-
  Plain laws, rat 16: reading a text, the reference's side.
-/
namespace Go.FL
open Go Go.Proofs

end Go.FL
/-
  GP: glyphlaw14: live, where.
-/
namespace Go.FL
open Go Go.Proofs

def law14_live : Option (Bool) := ((report_Lines 5 (ByteArray.empty, 0, (⟨#[49, 32, 50, 43, 49, 32, 50, 32, 51]⟩ : ByteArray), 3)).bind fun x1 => (Option.bind ((if ((List.length x1 : Nat) : Int) = 3 then ((rd? x1 0).bind fun x3 => (if x3 = (⟨#[76, 69, 78, 71, 84, 72, 32, 69, 82, 82, 79, 82]⟩ : ByteArray) then ((rd? x1 1).bind fun x4 => (if x4 = (⟨#[32, 32, 32, 32, 32, 32, 49, 32, 50, 43, 49, 32, 50, 32, 51]⟩ : ByteArray) then ((rd? x1 2).bind fun x5 => (some (decide (x5 = (⟨#[32, 32, 32, 32, 32, 32, 32, 32, 32, 94]⟩ : ByteArray))))) else (some false))) else (some false))) else (some false)) : Option (Bool)) fun (z2 : Bool) => (some (z2))))
theorem law14_live_ok {r : Bool} (h : law14_live = some r) :
    Fn Try.prog 25 [] (.d (.b r)) := by
  unfold law14_live at h
  refine Fn.of (rs := [.tmp 0]) (nt := 25) Try.func25 rfl rfl rfl (by simp) rfl ?_
  refine .seq ?_
  refine .region ?_
  refine asd ?_
  refine rn ?_
  refine .gh (Gh.keep [0] rfl) ?_
  refine .seq ?_
  refine .region ?_
  refine vk (vbd gP_W gI_W gZ_W) ?_
  obtain ⟨x1, hx1, h⟩ := bnd h
  refine vk (vcl0 (report_Lines_ok hx1) Try.call27) ?_
  refine asd ?_
  refine rn ?_
  refine .gh (Gh.keep [0, 1] rfl) ?_
  refine .seq ?_
  obtain ⟨z2, hz, h⟩ := bnd h
  refine AW.mr (σ := Unit) (fun _ => True) (fun _ => [(0, .d (.b z2))]) (fun _ => []) ?_ ?_
  · skip
    refine .region ?_
    refine vk (vmvd) ?_
    refine vk (vlnE (Ss_length _) (Ss_sz _) gu_Ss) ?_
    refine vk (vbi) ?_
    by_cases hc : ((List.length x1 : Nat) : Int) = 3
    · replace hz := ite_t hc hz
      have hb0 : (decide (((List.length x1 : Nat) : Int) = 3)) = true := (decide_eq_true hc)
      refine vk (VOK.lit (vmvd) hb0) ?_
      refine vk (vmvd) ?_
      obtain ⟨x3, hx3, hz⟩ := bnd hz
      obtain ⟨nx3, hnx3, hxx3⟩ := rd_some hx3
      refine vk (vix nx3 hnx3 (Ss_at hxx3) rfl gs_Ss) ?_
      refine vk (vldp ga_string) ?_
      refine vk (vsq (.inl rfl)) ?_
      refine vk (vpkd) ?_
      by_cases hc : x3 = (⟨#[76, 69, 78, 71, 84, 72, 32, 69, 82, 82, 79, 82]⟩ : ByteArray)
      · replace hz := ite_t hc hz
        have hb1 : (decide (x3 = (⟨#[76, 69, 78, 71, 84, 72, 32, 69, 82, 82, 79, 82]⟩ : ByteArray))) = true := (decide_eq_true hc)
        refine vk (VOK.lit (vmvd) hb1) ?_
        refine vk (vmvd) ?_
        obtain ⟨x4, hx4, hz⟩ := bnd hz
        obtain ⟨nx4, hnx4, hxx4⟩ := rd_some hx4
        refine vk (vix nx4 hnx4 (Ss_at hxx4) rfl gs_Ss) ?_
        refine vk (vldp ga_string) ?_
        refine vk (vsq (.inl rfl)) ?_
        refine vk (vpkd) ?_
        by_cases hc : x4 = (⟨#[32, 32, 32, 32, 32, 32, 49, 32, 50, 43, 49, 32, 50, 32, 51]⟩ : ByteArray)
        · replace hz := ite_t hc hz
          have hb2 : (decide (x4 = (⟨#[32, 32, 32, 32, 32, 32, 49, 32, 50, 43, 49, 32, 50, 32, 51]⟩ : ByteArray))) = true := (decide_eq_true hc)
          refine vk (VOK.lit (vmvd) hb2) ?_
          refine vk (vmvd) ?_
          obtain ⟨x5, hx5, hz⟩ := bnd hz
          obtain ⟨nx5, hnx5, hxx5⟩ := rd_some hx5
          refine vk (vix nx5 hnx5 (Ss_at hxx5) rfl gs_Ss) ?_
          refine vk (vldp ga_string) ?_
          refine vk (vsq (.inl rfl)) ?_
          refine vk (vpkd) ?_
          refine asd ?_
          refine RL.gh (Gh.keep [0] rfl) ?_
          refine .nil ?_
          cases hz
          exact jr () trivial
        replace hz := ite_f hc hz
        have hb2 : (decide (x4 = (⟨#[32, 32, 32, 32, 32, 32, 49, 32, 50, 43, 49, 32, 50, 32, 51]⟩ : ByteArray))) = false := (decide_eq_false hc)
        refine vk (VOK.lit (vmvd) hb2) ?_
        refine gf ?_
        refine gf ?_
        refine gf ?_
        refine gf ?_
        refine vk (vpkd) ?_
        refine asd ?_
        refine RL.gh (Gh.keep [0] rfl) ?_
        refine .nil ?_
        cases hz
        exact jr () trivial
      replace hz := ite_f hc hz
      have hb1 : (decide (x3 = (⟨#[76, 69, 78, 71, 84, 72, 32, 69, 82, 82, 79, 82]⟩ : ByteArray))) = false := (decide_eq_false hc)
      refine vk (VOK.lit (vmvd) hb1) ?_
      refine gf ?_
      refine gf ?_
      refine gf ?_
      refine gf ?_
      refine vk (vpkd) ?_
      refine vk (vmvd) ?_
      refine gf ?_
      refine gf ?_
      refine gf ?_
      refine gf ?_
      refine vk (vpkd) ?_
      refine asd ?_
      refine RL.gh (Gh.keep [0] rfl) ?_
      refine .nil ?_
      cases hz
      exact jr () trivial
    replace hz := ite_f hc hz
    have hb0 : (decide (((List.length x1 : Nat) : Int) = 3)) = false := (decide_eq_false hc)
    refine vk (VOK.lit (vmvd) hb0) ?_
    refine gf ?_
    refine gf ?_
    refine gf ?_
    refine gf ?_
    refine vk (vpkd) ?_
    refine vk (vmvd) ?_
    refine gf ?_
    refine gf ?_
    refine gf ?_
    refine gf ?_
    refine vk (vpkd) ?_
    refine vk (vmvd) ?_
    refine gf ?_
    refine gf ?_
    refine gf ?_
    refine gf ?_
    refine vk (vpkd) ?_
    refine asd ?_
    refine RL.gh (Gh.keep [0] rfl) ?_
    refine .nil ?_
    cases hz
    exact jr () trivial
  rintro _ _
  refine .ret ?_
  cases h
  exact ⟨rfl, rfl⟩

end Go.FL
/-
  GP: the law ReportTexts.
-/
namespace Go.FL
open Go Go.Proofs

end Go.FL
/-
  GP: the law ReportBack.
-/
namespace Go.FL
open Go Go.Proofs

def law14_ReportBack (a0 : Int) : Option (Bool) := ((report_Text (IntKind.wrap .i64 (IntKind.wrap .u8 ((Int.tmod a0 9) + 1)))).bind fun x1 => ((report_Parse x1).bind fun x2 => ((report_Text 28).bind fun x3 => ((report_Parse x3).bind fun x4 => (law14_live.bind fun x5 => (some ((x5 && ((decide (x2.1 = (IntKind.wrap .i64 (IntKind.wrap .u8 ((Int.tmod a0 9) + 1))))) && (x2.2 && ((decide (x4.1 = 28)) && x4.2)))))))))))
theorem law14_ReportBack_ok {a0 : Int} {r : Bool} (h : law14_ReportBack a0 = some r) :
    Fn Try.prog 9 [.i .u8 a0] (.d (.b r)) := by
  unfold law14_ReportBack at h
  refine Fn.of (rs := [.tmp 2]) (nt := 39) Try.func9 rfl rfl rfl (by simp) rfl ?_
  refine .seq ?_
  refine .region ?_
  refine asd ?_
  refine rn ?_
  refine .gh (Gh.keep [0, 2] rfl) ?_
  refine .seq ?_
  refine .region ?_
  refine vk (vmvd) ?_
  refine vk (vbic (c := (9 : Int) ≠ 0) (by decide)) ?_
  refine vk (vbi) ?_
  refine vk (vcv gk_uint8 gk_Errno) ?_
  refine asd ?_
  refine rn ?_
  refine .gh (Gh.keep [2, 3] rfl) ?_
  refine .seq ?_
  refine .region ?_
  refine vk (vmvd) ?_
  obtain ⟨x1, hx1, h⟩ := bnd h
  refine vk (vcl0 (report_Text_ok hx1) Try.call44) ?_
  obtain ⟨x2, hx2, h⟩ := bnd h
  refine vk (VOK.tupd (vs := [.i .i64 x2.1, .b x2.2]) (vcl0 (report_Parse_ok hx2) Try.call42)) ?_
  refine vk (vmvd) ?_
  refine vk (vex) ?_
  refine vk (vex) ?_
  refine asd ?_
  refine asd ?_
  refine rn ?_
  refine .gh (Gh.keep [2, 3, 4, 5] rfl) ?_
  refine .seq ?_
  refine .region ?_
  obtain ⟨x3, hx3, h⟩ := bnd h
  refine vk (vcl0 (report_Text_ok hx3) Try.call44) ?_
  obtain ⟨x4, hx4, h⟩ := bnd h
  refine vk (VOK.tupd (vs := [.i .i64 x4.1, .b x4.2]) (vcl0 (report_Parse_ok hx4) Try.call42)) ?_
  refine vk (vmvd) ?_
  refine vk (vex) ?_
  refine vk (vex) ?_
  refine asd ?_
  refine asd ?_
  refine rn ?_
  refine .gh (Gh.keep [2, 3, 4, 5, 6, 7] rfl) ?_
  refine .seq ?_
  obtain ⟨x5, hx5, h⟩ := bnd h
  refine AW.mr (σ := Unit) (fun _ => True) (fun _ => [(2, .d (.b (x5 && ((decide (x2.1 = (IntKind.wrap .i64 (IntKind.wrap .u8 ((Int.tmod a0 9) + 1))))) && (x2.2 && ((decide (x4.1 = 28)) && x4.2))))))]) (fun _ => []) ?_ ?_
  · skip
    refine .region ?_
    refine vk (vcl0 (law14_live_ok hx5) Try.call25) ?_
    by_cases hc : x5 = true
    · have hb0 : x5 = true := hc
      refine vk (VOK.lit (vmvd) hb0) ?_
      refine vk (vmvd) ?_
      refine vk (vmvd) ?_
      refine vk (vbi) ?_
      refine vk (vpkd) ?_
      by_cases hc : x2.1 = (IntKind.wrap .i64 (IntKind.wrap .u8 ((Int.tmod a0 9) + 1)))
      · have hb1 : (decide (x2.1 = (IntKind.wrap .i64 (IntKind.wrap .u8 ((Int.tmod a0 9) + 1))))) = true := (decide_eq_true hc)
        refine vk (VOK.lit (vmvd) hb1) ?_
        refine vk (vmvd) ?_
        refine vk (vpkd) ?_
        by_cases hc : x2.2 = true
        · have hb2 : x2.2 = true := hc
          refine vk (VOK.lit (vmvd) hb2) ?_
          refine vk (vmvd) ?_
          refine vk (vbi) ?_
          refine vk (vpkd) ?_
          by_cases hc : x4.1 = 28
          · have hb3 : (decide (x4.1 = 28)) = true := (decide_eq_true hc)
            refine vk (VOK.lit (vmvd) hb3) ?_
            refine vk (vmvd) ?_
            refine vk (vpkd) ?_
            refine asd ?_
            refine RL.gh (Gh.keep [2] rfl) ?_
            refine .nil ?_
            exact jr () trivial (by simp only [hb0, hb1, hb2, hb3]; rfl)
          have hb3 : (decide (x4.1 = 28)) = false := (decide_eq_false hc)
          refine vk (VOK.lit (vmvd) hb3) ?_
          refine gf ?_
          refine vk (vpkd) ?_
          refine asd ?_
          refine RL.gh (Gh.keep [2] rfl) ?_
          refine .nil ?_
          exact jr () trivial (by simp only [hb0, hb1, hb2, hb3]; rfl)
        have hb2 : x2.2 = false := (bf hc)
        refine vk (VOK.lit (vmvd) hb2) ?_
        refine gf ?_
        refine gf ?_
        refine vk (vpkd) ?_
        refine vk (vmvd) ?_
        refine gf ?_
        refine vk (vpkd) ?_
        refine asd ?_
        refine RL.gh (Gh.keep [2] rfl) ?_
        refine .nil ?_
        exact jr () trivial (by simp only [hb0, hb1, hb2]; rfl)
      have hb1 : (decide (x2.1 = (IntKind.wrap .i64 (IntKind.wrap .u8 ((Int.tmod a0 9) + 1))))) = false := (decide_eq_false hc)
      refine vk (VOK.lit (vmvd) hb1) ?_
      refine gf ?_
      refine vk (vpkd) ?_
      refine vk (vmvd) ?_
      refine gf ?_
      refine gf ?_
      refine vk (vpkd) ?_
      refine vk (vmvd) ?_
      refine gf ?_
      refine vk (vpkd) ?_
      refine asd ?_
      refine RL.gh (Gh.keep [2] rfl) ?_
      refine .nil ?_
      exact jr () trivial (by simp only [hb0, hb1]; rfl)
    have hb0 : x5 = false := (bf hc)
    refine vk (VOK.lit (vmvd) hb0) ?_
    refine gf ?_
    refine gf ?_
    refine gf ?_
    refine vk (vpkd) ?_
    refine vk (vmvd) ?_
    refine gf ?_
    refine vk (vpkd) ?_
    refine vk (vmvd) ?_
    refine gf ?_
    refine gf ?_
    refine vk (vpkd) ?_
    refine vk (vmvd) ?_
    refine gf ?_
    refine vk (vpkd) ?_
    refine asd ?_
    refine RL.gh (Gh.keep [2] rfl) ?_
    refine .nil ?_
    exact jr () trivial (by simp only [hb0]; rfl)
  rintro _ _
  refine .ret ?_
  cases h
  exact ⟨rfl, rfl⟩
end Go.FL
/-
  Plain laws of reports: ReportTexts, ReportBack.
-/
namespace Go.FL
open Go Go.Proofs

/-- The text of an error's number. -/
def numB (e : Int) : ByteArray := (⟨#[69, 82, 82, 79, 82, 32]⟩ : ByteArray) ++ bstr (txtQ (e : Rat))
def textB (e : Int) : ByteArray := if e = 0 then ⟨#[]⟩ else if e = 9 then ⟨#[73, 78, 84, 69, 82, 82, 85, 80, 84]⟩ else if wordB e = ⟨#[]⟩ then numB e else wordB e ++ (⟨#[32, 69, 82, 82, 79, 82]⟩ : ByteArray)
theorem word_size (e : Int) : (byts (wordB e)).length ≤ 100 := by
  have h : ∀ i : Fin 29, (byts (words.getD i.val ⟨#[]⟩)).length ≤ 100 := by decide +kernel
  unfold wordB
  split
  · by_cases hi : e.toNat < 29
    · exact h ⟨e.toNat, hi⟩
    · rw [List.getD_eq_getElem?_getD, List.getElem?_eq_none (by show 29 ≤ e.toNat; omega)]; exact Nat.zero_le _
  · exact Nat.zero_le _
theorem txt_len {e : Int} (h1 : -9223372036854775808 ≤ e) (h2 : e ≤ 9223372036854775807) : (byts (bstr (txtQ (e : Rat)))).length ≤ 5000 := by
  have l1 := small_dec (fits_int h1 (by omega)).1
  rw [byts_length]
  have : (bstr (txtQ (e : Rat))).size = (txtQ (e : Rat)).length := by simp [bstr, ByteArray.size]
  rw [this]
  unfold txtQ
  rw [Rat.den_intCast, if_pos rfl, List.append_nil, List.length_append]
  have : (if (e : Rat).num < 0 then [194, 175] else ([] : List Nat)).length ≤ 2 := by split <;> simp
  omega
theorem number_eq {e : Int} (h1 : -9223372036854775808 ≤ e) (h2 : e ≤ 9223372036854775807) : report_number e = some (bstr (txtQ (e : Rat))) := by
  unfold report_number
  rw [ofInt_q h1 h2, Option.bind_some, print_q (fits_int h1 (by omega))]; rfl
theorem repWord_eq (e : Int) : repWord e = some (wordB e) := if_pos trivial
theorem text_eq {e : Int} (h1 : -9223372036854775808 ≤ e) (h2 : e ≤ 9223372036854775807) : report_Text e = some (textB e) := by
  unfold report_Text textB
  rw [repWord_eq, Option.bind_some]
  by_cases h0 : e = 0
  · rw [if_pos h0, if_pos h0]
  · rw [if_neg h0, if_neg h0]
    by_cases h9 : e = 9
    · rw [if_pos h9, if_pos h9]
    · rw [if_neg h9, if_neg h9]
      by_cases hw : wordB e = ⟨#[]⟩
      · have hl := txt_len h1 h2
        rw [if_pos hw, if_pos hw, number_eq h1 h2, Option.bind_some, sap_ok (Nat.le_trans (Nat.add_le_add_left hl _) (by decide))]; rfl
      · rw [if_neg hw, if_neg hw, sap_ok (Nat.le_trans (Nat.add_le_add_right (word_size e) _) (by decide))]; rfl
theorem text28 : textB 28 = ⟨#[68, 69, 70, 78, 32, 69, 82, 82, 79, 82]⟩ := by kernel_rfl
/-- Which error a text tells: from e on. -/
def pf (s : ByteArray) : Nat → Nat → Int × Bool
  | 0, _ => (0, false)
  | d + 1, e => if (e ≤ 9 ∨ e = 28) ∧ s = textB e then ((e : Int), true) else pf s d (e + 1)
theorem parse_from (s : ByteArray) : ∀ (d e k : Nat) (r : Int) (b : Bool), d = 29 - e → e ≤ 29 → d < k → report_Parse_l0 s k r b e = some (pf s d e)
  | 0, e, k, r, b, h1, h2, h3 => by
    obtain ⟨k, rfl⟩ : ∃ m, k = m + 1 := ⟨k - 1, by omega⟩
    rw [report_Parse_l0, if_neg (by omega)]; rfl
  | d + 1, e, k, r, b, h1, h2, h3 => by
    obtain ⟨k, rfl⟩ : ∃ m, k = m + 1 := ⟨k - 1, by omega⟩
    rw [report_Parse_l0, if_pos (by omega), text_eq (by omega) (by omega), Option.bind_some, pf]
    by_cases h : (e ≤ 9 ∨ e = 28) ∧ s = textB e
    · rw [if_pos h, if_pos]
      rw [Bool.and_eq_true, Bool.or_eq_true, decide_eq_true_eq, decide_eq_true_eq, decide_eq_true_eq]
      exact ⟨h.2, by omega⟩
    · rw [if_neg h, if_neg, show w64 ((e : Int) + 1) = ((e + 1 : Nat) : Int) by rw [w64_eq (by omega) (by omega)]; rfl]
      · exact parse_from s d (e + 1) k r b (by omega) (by omega) (by omega)
      · rw [Bool.and_eq_true, Bool.or_eq_true, decide_eq_true_eq, decide_eq_true_eq, decide_eq_true_eq]
        rintro ⟨x1, x2⟩
        exact h ⟨by omega, x1⟩
theorem fuel_big : 1000 < FUEL := by unfold FUEL; omega
theorem rparse_eq (s : ByteArray) : report_Parse s = some (pf s 28 1) := parse_from s 28 1 FUEL 0 false rfl (by decide) (Nat.lt_trans (by decide) fuel_big)
theorem lv_a : report_width ⟨#[49, 32, 50, 43, 49, 32, 50, 32, 51]⟩ = some 9 := by kernel_rfl
theorem lv_b : report_Prefix (ByteArray.empty, 0, (⟨#[49, 32, 50, 43, 49, 32, 50, 32, 51]⟩ : ByteArray), 3) = some ⟨#[32, 32, 32, 32, 32, 32]⟩ := by kernel_rfl
theorem lv_c : report_Text 5 = some ⟨#[76, 69, 78, 71, 84, 72, 32, 69, 82, 82, 79, 82]⟩ := by kernel_rfl
theorem lv_d : report_width ⟨#[32, 32, 32, 32, 32, 32]⟩ = some 6 := by kernel_rfl
theorem lv_f : report_Lines 5 (ByteArray.empty, 0, (⟨#[49, 32, 50, 43, 49, 32, 50, 32, 51]⟩ : ByteArray), 3) = some [⟨#[76, 69, 78, 71, 84, 72, 32, 69, 82, 82, 79, 82]⟩, ⟨#[32, 32, 32, 32, 32, 32, 49, 32, 50, 43, 49, 32, 50, 32, 51]⟩, ⟨#[32, 32, 32, 32, 32, 32, 32, 32, 32, 94]⟩] := by
  unfold report_Lines
  rw [if_neg (by decide)]
  refine bind_eq lv_a ?_
  refine bind_eq lv_b ?_
  refine bind_eq lv_c ?_
  refine bind_eq (a := ⟨#[32, 32, 32, 32, 32, 32, 49, 32, 50, 43, 49, 32, 50, 32, 51]⟩) (by kernel_rfl) ?_
  refine bind_eq lv_d ?_
  refine bind_eq (a := ⟨#[32, 32, 32, 32, 32, 32, 32, 32, 32]⟩) (by kernel_rfl) ?_
  exact bind_eq (a := ⟨#[32, 32, 32, 32, 32, 32, 32, 32, 32, 94]⟩) (by kernel_rfl) rfl
theorem live14 : law14_live = some true := by
  unfold law14_live
  exact bind_eq lv_f (by kernel_rfl)
theorem back_at (m : Nat) (h : m < 9) : pf (textB ((m + 1 : Nat) : Int)) 28 1 = (((m + 1 : Nat) : Int), true) := by
  match m, h with
  | 0, _ => exact (by kernel_rfl : pf (textB ((0 + 1 : Nat) : Int)) 28 1 = (((0 + 1 : Nat) : Int), true))
  | 1, _ => exact (by kernel_rfl : pf (textB ((1 + 1 : Nat) : Int)) 28 1 = (((1 + 1 : Nat) : Int), true))
  | 2, _ => exact (by kernel_rfl : pf (textB ((2 + 1 : Nat) : Int)) 28 1 = (((2 + 1 : Nat) : Int), true))
  | 3, _ => exact (by kernel_rfl : pf (textB ((3 + 1 : Nat) : Int)) 28 1 = (((3 + 1 : Nat) : Int), true))
  | 4, _ => exact (by kernel_rfl : pf (textB ((4 + 1 : Nat) : Int)) 28 1 = (((4 + 1 : Nat) : Int), true))
  | 5, _ => exact (by kernel_rfl : pf (textB ((5 + 1 : Nat) : Int)) 28 1 = (((5 + 1 : Nat) : Int), true))
  | 6, _ => exact (by kernel_rfl : pf (textB ((6 + 1 : Nat) : Int)) 28 1 = (((6 + 1 : Nat) : Int), true))
  | 7, _ => exact (by kernel_rfl : pf (textB ((7 + 1 : Nat) : Int)) 28 1 = (((7 + 1 : Nat) : Int), true))
  | 8, _ => exact (by kernel_rfl : pf (textB ((8 + 1 : Nat) : Int)) 28 1 = (((8 + 1 : Nat) : Int), true))
  | n + 9, h => omega
theorem back_28 : pf (textB 28) 28 1 = (28, true) := by
  rw [text28]; kernel_rfl
theorem wr8 {m : Nat} (h : m < 9) : IntKind.wrap .i64 (IntKind.wrap .u8 ((m : Int) + 1)) = ((m + 1 : Nat) : Int) := by
  simp only [IntKind.wrap, IntKind.bits, IntKind.signed]; simp; omega
theorem lawRBack {a : Int} (ha : (Lit.int .u8 a).wf = true) : law14_ReportBack a = some true := by
  obtain ⟨n, hn, rfl⟩ := as_u8 ha
  unfold law14_ReportBack
  rw [show Int.tmod (n : Int) 9 = ((n % 9 : Nat) : Int) from rfl]
  have hm : n % 9 < 9 := Nat.mod_lt _ (by decide)
  generalize n % 9 = m at *
  rw [wr8 hm, text_eq (by omega) (by omega), Option.bind_some, rparse_eq, Option.bind_some, back_at m hm, text_eq (by decide) (by decide), Option.bind_some, rparse_eq, Option.bind_some, back_28, live14, Option.bind_some]
  simp
end Go.FL
/-
  The statement ReportBackSaid: for every input the law gives true, and each argument reads as it read before.
-/
namespace Go.Proofs.Ytcoofpnbnifbbaa.reportBack
open Go.ChangeShapes Go.WideShapes Go.ChangeAt Go.RowKit Go.FL

theorem own : ownKnob Try.prog.godebug = none := by kernel_rfl
theorem laid : laidOutB Try.prog = true := by kernel_rfl
theorem params : ∀ t ∈ Try.f9.params.toList, Try.prog.readableRec t = true ∧ t < Try.prog.types.size := by
  intro t ht
  simp only [Try.params9, List.mem_cons, List.not_mem_nil, or_false] at ht
  rcases ht with rfl <;> exact ⟨by kernel_rfl, of_decide_eq_true (by kernel_rfl)⟩
set_option maxRecDepth 100000 in
theorem lifted (os : Os) (started : os.Started) (H : Type) (enc : TypeId × Value → H) :
    ReturnsInHanded {} Try.checked os 9 .any (Rows.reportBackSpec.pre6 enc Try.prog Try.f9 Rows.reportBackRow.domain false) (Rows.reportBackSpec.post enc Try.prog Try.f9 false true false false) := by
  refine returnsInHanded_of_change_sized (C := Try.checked) own started (by kernel_rfl) Try.func9
    (ChangeSpec.witness6 (enc := enc) (C := Try.checked) false ⟨#[], #[.int .u8 0], []⟩ 8 (by kernel_rfl) (by kernel_rfl) (by kernel_rfl) (by kernel_rfl)) ?_
  intro W base args ds gs before hval0 hW hcnd hsz _
  have hval : ∀ (j : Nat) t v, Try.f9.params[j]? = some t → args[j]? = some v → Value.okWide Try.prog W .any base t v := hval0
  have hW' := hW
  obtain ⟨p, q, hA0, hV, rfl, hfz, hnd⟩ := hW
  have hA : DataW.TrodAll enc Try.prog W 0 (fun _ => true) true Try.f9.params.toList args.toList ds p := hA0
  rw [Try.params9] at hA hval
  obtain ⟨v0, vs0, d0, ds0, p0, q0, hargs, rfl, rfl, h0, r0⟩ := trodAll_cons hA
  obtain ⟨rfl, rfl, rfl⟩ := trodAll_nil r0
  obtain rfl : args = #[v0] := by cases args; simp_all
  obtain ⟨rfl, rfl⟩ := trodVars_none hV
  rw [Try.params9] at hsz
  have w0 : ∀ m ∈ DataW.weights Try.prog 5 d0, m ≤ reachBytes := fun m hm => by simpa using List.all_eq_true.1 hsz m (DataW.weights_mem_each (j := 0) rfl rfl m hm)
  obtain ⟨a0, o0, e0⟩ := arg_int (by kernel_rfl : Try.prog.underlying 5 = some (.int .u8)) (hval 0 5 v0 rfl rfl) h0
  refine (law_calls (law14_ReportBack_ok (lawRBack o0)) (.cons e0 .nil)).mono fun e W' ⟨he, hb⟩ => ?_
  subst he
  exact ⟨_, rfl, post_law hW' rfl (fun _ => rfl) rfl Try.underlying4 laid params hb⟩

theorem over : Rows.reportBackRow.holds Try.pinned (OpenSpec.ofChange Rows.reportBackSpec) :=
  OpenClaim.holds_of_wide 9 Try.f9 rfl rfl rfl rfl rfl rfl rfl ⟨rfl, rfl, rfl, rfl, rfl⟩ rfl rfl rfl rfl rfl (by kernel_rfl) Try.func9 (by kernel_rfl)
    (of_decide_eq_true (by kernel_rfl)) (by unfold Func.isWrapper; first | (rw [if_pos (by decide +kernel)]; kernel_rfl) | (rw [if_neg (by decide +kernel)]; exact ⟨rfl, rfl⟩))
    (fun os started H enc _ => lifted os started H enc)

theorem proved : Rows.ReportBackSaid :=
  over
end Go.Proofs.Ytcoofpnbnifbbaa.reportBack
