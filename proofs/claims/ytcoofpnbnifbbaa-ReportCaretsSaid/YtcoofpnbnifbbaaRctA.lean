/-
  The law: its function printed as a pure function, its contract, the plain law, the statement
-/
import Derived.Test.YtcoofpnbnifbbaaRlD
import Derived.Test.YtcoofpnbnifbbaaRows
set_option linter.unusedVariables false
/-
  GP: the law RatMakes.
-/
namespace Go.FL
open Go Go.Proofs

end Go.FL
/-
  GP: the law RatReckons.
-/
namespace Go.FL
open Go Go.Proofs

end Go.FL
/-
  GP: the law RatOrders.
-/
namespace Go.FL
open Go Go.Proofs

end Go.FL
/-
  GP: the law RatRounds.
-/
namespace Go.FL
open Go Go.Proofs

end Go.FL
/-
  Plain laws, rat 7: RatMakes, RatReckons, RatOrders, RatRounds.
-/
namespace Go.FL
open Go Go.Proofs

end Go.FL
/-
  GP: the law RatBack.
-/
namespace Go.FL
open Go Go.Proofs

end Go.FL
/-
  GP: the law RatResidues.
-/
namespace Go.FL
open Go Go.Proofs

end Go.FL
/-
  Plain laws, rat 8: RatBack, RatResidues.
-/
namespace Go.FL
open Go Go.Proofs

end Go.FL
/-
  GP: the law RatCompares.
-/
namespace Go.FL
open Go Go.Proofs

end Go.FL
/-
  Plain laws, rat 9: RatCompares.
-/
namespace Go.FL
open Go Go.Proofs

def absR (p : Rat) : Rat := if p < 0 then -p else p
def maxA (p q : Rat) : Rat := if absR p < absR q then absR q else absR p
def within (c p q : Rat) : Prop := absR (p - q) ≤ c * maxA p q
instance (c p q : Rat) : Decidable (within c p q) := inferInstanceAs (Decidable (_ ≤ _))
end Go.FL
/-
  Plain laws, rat 10: RatCompares, the reference's side and the law.
-/
namespace Go.FL
open Go Go.Proofs

end Go.FL
/-
  GP: the law RatPowers.
-/
namespace Go.FL
open Go Go.Proofs

end Go.FL
/-
  Plain laws, rat 11: powers, RatPowers.
-/
namespace Go.FL
open Go Go.Proofs

theorem equal_digs {m n : Nat} (hm : (digs m).length ≤ 1048576) (hn : (digs n).length ≤ 1048576) : sEqualL (digs m) (digs n) = some (decide (m = n)) := by
  rw [equalL_eq (okL_digs hm) (okL_digs (by omega))]
  congr 1
  exact decide_eq_decide.2 ⟨digs_inj, fun h => by rw [h]⟩
end Go.FL
/-
  GP: the law TopField.
-/
namespace Go.FL
open Go Go.Proofs

end Go.FL
/-
  Plain laws, rat 12: printing a number, TopField.
-/
namespace Go.FL
open Go Go.Proofs

theorem nPrint_eq {n : Nat} (h : (digs n).length ≤ 1048576) : nPrint (digs n) = some (bstr (decT n)) := by
  unfold nPrint; rw [if_pos (okL_digs h), val_digs]
/-- The text of a number. -/
def txtQ (p : Rat) : List Nat := (if p.num < 0 then [194, 175] else []) ++ (decT p.num.natAbs ++ (if p.den = 1 then [] else 114 :: decT p.den))
theorem sap_eq {a b : List Nat} (h : a.length + b.length ≤ 100000) : sap? (bstr a) (bstr b) = some (bstr (a ++ b)) := by
  unfold sap?
  rw [if_pos, bstr_append]
  have h1 : ∀ l : List Nat, (bstr l).size = l.length := fun l => by simp [bstr, ByteArray.size]
  rw [h1, h1]; exact Nat.le_trans h (by decide)
theorem small_lt {n : Nat} (h : small n) : n < 4294967296 ^ 32 := by
  have := val_lt (digs_ok n)
  rw [val_digs] at this
  exact Nat.lt_of_lt_of_le this (Nat.pow_le_pow_right (by decide) h)
set_option exponentiation.threshold 2000 in
theorem small_dec {n : Nat} (h : small n) : (decT n).length ≤ 310 := decT_len (k := 309) (Nat.lt_trans (small_lt h) (by decide))
theorem print_q {p : Rat} (hp : fits p) : rat_Print (ofQ p) = some (bstr (txtQ p)) := by
  unfold rat_Print
  have l1 := small_dec hp.1
  have l2 := small_dec hp.2
  have e1 : nPrint (ofQ p).2.1 = some (bstr (decT p.num.natAbs)) := nPrint_eq (Nat.le_trans hp.1 (by decide))
  have e2 : nPrint (ofQ p).2.2 = some (bstr (decT p.den)) := nPrint_eq (Nat.le_trans hp.2 (by decide))
  have e3 : sEqualL (ofQ p).2.2 [1] = some (decide (p.den = 1)) := by rw [← one_digs]; exact equal_digs (Nat.le_trans hp.2 (by decide)) (by rw [one_digs]; decide)
  have s1 : sap? (⟨#[194, 175]⟩ : ByteArray) (bstr (decT p.num.natAbs)) = some (bstr ([194, 175] ++ decT p.num.natAbs)) := sap_eq (a := [194, 175]) (by simp; omega)
  have s2 : sap? (⟨#[114]⟩ : ByteArray) (bstr (decT p.den)) = some (bstr ([114] ++ decT p.den)) := sap_eq (a := [114]) (by simp; omega)
  rw [ratRight_eq (ofQ_okRB hp), ofQ_right hp, Option.bind_some, if_pos rfl, e1, Option.bind_some, ratOne_eq]
  show (if decide (p.num < 0) = true then _ else _) = _
  unfold txtQ
  by_cases hs : p.num < 0
  · rw [if_pos (decide_eq_true hs), s1, Option.bind_some, Option.bind_some, e3, Option.bind_some, if_pos hs]
    by_cases hd : p.den = 1
    · rw [if_pos (decide_eq_true hd), if_pos hd, List.append_nil]
    · rw [if_neg (by simpa using hd), e2, Option.bind_some, s2, Option.bind_some, sap_eq (by simp; omega), Option.bind_some, if_neg hd, List.append_assoc]; rfl
  · rw [if_neg (by simpa using hs), Option.bind_some, e3, Option.bind_some, if_neg hs, List.nil_append]
    by_cases hd : p.den = 1
    · rw [if_pos (decide_eq_true hd), if_pos hd, List.append_nil]
    · rw [if_neg (by simpa using hd), e2, Option.bind_some, s2, Option.bind_some, sap_eq (by simp; omega), Option.bind_some, if_neg hd]; rfl
end Go.FL
/-
  GP: the law RatPascal.
-/
namespace Go.FL
open Go Go.Proofs

end Go.FL
/-
  Plain laws, rat 13: RatPascal.
-/
namespace Go.FL
open Go Go.Proofs

/-- The number of ways to choose. -/
def ch : Nat → Nat → Nat
  | _, 0 => 1
  | 0, _ + 1 => 0
  | n + 1, k + 1 => ch n k + ch n (k + 1)
theorem few {n : Nat} (h : n < 4294967296) (k : Nat) : (digs n).length ≤ k + 1 := Nat.le_trans (few_len h) (by omega)
end Go.FL
/-
  GP: the law RatTexts.
-/
namespace Go.FL
open Go Go.Proofs

end Go.FL
/-
  Plain laws, rat 15: reading a text.
-/
namespace Go.FL
open Go Go.Proofs

end Go.FL
/-
  Plain laws, rat 16: reading a text, the reference's side.
-/
namespace Go.FL
open Go Go.Proofs

theorem ref_print_q {p : Rat} (hp : fits p) : ref02_Print (ofQ p) = some (bstr (txtQ p)) := by
  unfold ref02_Print
  have l1 := small_dec hp.1
  have l2 := small_dec hp.2
  have r1P : ∀ {n : Nat}, (digs n).length ≤ 100000 → r1Print (digs n) = some (bstr (decT n)) := fun {n} h => by unfold r1Print; rw [if_pos (okL_digs h), val_digs]
  have e1 : r1Print (ofQ p).2.1 = some (bstr (decT p.num.natAbs)) := r1P (Nat.le_trans hp.1 (by decide))
  have e2 : r1Print (ofQ p).2.2 = some (bstr (decT p.den)) := r1P (Nat.le_trans hp.2 (by decide))
  have e3 : r1Same (ofQ p).2.2 [1] = some (decide (p.den = 1)) := by
    unfold r1Same
    rw [if_pos (show (ofQ p).2.2.length ≤ 35184372087808 from Nat.le_trans hp.2 (by decide)), ← one_digs]
    congr 1
    exact decide_eq_decide.2 ⟨digs_inj, fun h => by show digs p.den = digs 1; rw [h]⟩
  have s1 : sap? (⟨#[194, 175]⟩ : ByteArray) (bstr (decT p.num.natAbs)) = some (bstr ([194, 175] ++ decT p.num.natAbs)) := sap_eq (a := [194, 175]) (by simp; omega)
  have s2 : sap? (⟨#[114]⟩ : ByteArray) (bstr (decT p.den)) = some (bstr ([114] ++ decT p.den)) := sap_eq (a := [114]) (by simp; omega)
  rw [ref2Right_eq (ofQ_okRB hp), ofQ_right hp, Option.bind_some, if_pos rfl, e1, Option.bind_some, ref2One_eq]
  show (if decide (p.num < 0) = true then _ else _) = _
  unfold txtQ
  by_cases hs : p.num < 0
  · rw [if_pos (decide_eq_true hs), s1, Option.bind_some, Option.bind_some, e3, Option.bind_some, if_pos hs]
    by_cases hd : p.den = 1
    · rw [if_pos (decide_eq_true hd), if_pos hd, List.append_nil]
    · rw [if_neg (by simpa using hd), e2, Option.bind_some, s2, Option.bind_some, sap_eq (by simp; omega), Option.bind_some, if_neg hd, List.append_assoc]; rfl
  · rw [if_neg (by simpa using hs), Option.bind_some, e3, Option.bind_some, if_neg hs, List.nil_append]
    by_cases hd : p.den = 1
    · rw [if_pos (decide_eq_true hd), if_pos hd, List.append_nil]
    · rw [if_neg (by simpa using hd), e2, Option.bind_some, s2, Option.bind_some, sap_eq (by simp; omega), Option.bind_some, if_neg hd]; rfl
end Go.FL
/-
  GP: the law ReportTexts.
-/
namespace Go.FL
open Go Go.Proofs

end Go.FL
/-
  GP: the law ReportBack.
-/
namespace Go.FL
open Go Go.Proofs

end Go.FL
/-
  Plain laws of reports: ReportTexts, ReportBack.
-/
namespace Go.FL
open Go Go.Proofs

/-- The text of an error's number. -/
def numB (e : Int) : ByteArray := (⟨#[69, 82, 82, 79, 82, 32]⟩ : ByteArray) ++ bstr (txtQ (e : Rat))
def textB (e : Int) : ByteArray := if e = 0 then ⟨#[]⟩ else if e = 9 then ⟨#[73, 78, 84, 69, 82, 82, 85, 80, 84]⟩ else if wordB e = ⟨#[]⟩ then numB e else wordB e ++ (⟨#[32, 69, 82, 82, 79, 82]⟩ : ByteArray)
theorem word_size (e : Int) : (byts (wordB e)).length ≤ 100 := by
  have h : ∀ i : Fin 29, (byts (words.getD i.val ⟨#[]⟩)).length ≤ 100 := by decide +kernel
  unfold wordB
  split
  · by_cases hi : e.toNat < 29
    · exact h ⟨e.toNat, hi⟩
    · rw [List.getD_eq_getElem?_getD, List.getElem?_eq_none (by show 29 ≤ e.toNat; omega)]; exact Nat.zero_le _
  · exact Nat.zero_le _
theorem txt_len {e : Int} (h1 : -9223372036854775808 ≤ e) (h2 : e ≤ 9223372036854775807) : (byts (bstr (txtQ (e : Rat)))).length ≤ 5000 := by
  have l1 := small_dec (fits_int h1 (by omega)).1
  rw [byts_length]
  have : (bstr (txtQ (e : Rat))).size = (txtQ (e : Rat)).length := by simp [bstr, ByteArray.size]
  rw [this]
  unfold txtQ
  rw [Rat.den_intCast, if_pos rfl, List.append_nil, List.length_append]
  have : (if (e : Rat).num < 0 then [194, 175] else ([] : List Nat)).length ≤ 2 := by split <;> simp
  omega
theorem number_eq {e : Int} (h1 : -9223372036854775808 ≤ e) (h2 : e ≤ 9223372036854775807) : report_number e = some (bstr (txtQ (e : Rat))) := by
  unfold report_number
  rw [ofInt_q h1 h2, Option.bind_some, print_q (fits_int h1 (by omega))]; rfl
theorem ref_number_eq {e : Int} (h1 : -9223372036854775808 ≤ e) (h2 : e ≤ 9223372036854775807) : ref14_number e = some (bstr (txtQ (e : Rat))) := by
  unfold ref14_number
  rw [ref_ofInt_q h1 h2, Option.bind_some, ref_print_q (fits_int h1 (by omega))]; rfl
theorem repWord_eq (e : Int) : repWord e = some (wordB e) := if_pos trivial
theorem text_eq {e : Int} (h1 : -9223372036854775808 ≤ e) (h2 : e ≤ 9223372036854775807) : report_Text e = some (textB e) := by
  unfold report_Text textB
  rw [repWord_eq, Option.bind_some]
  by_cases h0 : e = 0
  · rw [if_pos h0, if_pos h0]
  · rw [if_neg h0, if_neg h0]
    by_cases h9 : e = 9
    · rw [if_pos h9, if_pos h9]
    · rw [if_neg h9, if_neg h9]
      by_cases hw : wordB e = ⟨#[]⟩
      · have hl := txt_len h1 h2
        rw [if_pos hw, if_pos hw, number_eq h1 h2, Option.bind_some, sap_ok (Nat.le_trans (Nat.add_le_add_left hl _) (by decide))]; rfl
      · rw [if_neg hw, if_neg hw, sap_ok (Nat.le_trans (Nat.add_le_add_right (word_size e) _) (by decide))]; rfl
theorem lv_a : report_width ⟨#[49, 32, 50, 43, 49, 32, 50, 32, 51]⟩ = some 9 := by kernel_rfl
theorem lv_b : report_Prefix (ByteArray.empty, 0, (⟨#[49, 32, 50, 43, 49, 32, 50, 32, 51]⟩ : ByteArray), 3) = some ⟨#[32, 32, 32, 32, 32, 32]⟩ := by kernel_rfl
theorem lv_c : report_Text 5 = some ⟨#[76, 69, 78, 71, 84, 72, 32, 69, 82, 82, 79, 82]⟩ := by kernel_rfl
theorem lv_d : report_width ⟨#[32, 32, 32, 32, 32, 32]⟩ = some 6 := by kernel_rfl
theorem lv_f : report_Lines 5 (ByteArray.empty, 0, (⟨#[49, 32, 50, 43, 49, 32, 50, 32, 51]⟩ : ByteArray), 3) = some [⟨#[76, 69, 78, 71, 84, 72, 32, 69, 82, 82, 79, 82]⟩, ⟨#[32, 32, 32, 32, 32, 32, 49, 32, 50, 43, 49, 32, 50, 32, 51]⟩, ⟨#[32, 32, 32, 32, 32, 32, 32, 32, 32, 94]⟩] := by
  unfold report_Lines
  rw [if_neg (by decide)]
  refine bind_eq lv_a ?_
  refine bind_eq lv_b ?_
  refine bind_eq lv_c ?_
  refine bind_eq (a := ⟨#[32, 32, 32, 32, 32, 32, 49, 32, 50, 43, 49, 32, 50, 32, 51]⟩) (by kernel_rfl) ?_
  refine bind_eq lv_d ?_
  refine bind_eq (a := ⟨#[32, 32, 32, 32, 32, 32, 32, 32, 32]⟩) (by kernel_rfl) ?_
  exact bind_eq (a := ⟨#[32, 32, 32, 32, 32, 32, 32, 32, 32, 94]⟩) (by kernel_rfl) rfl
theorem live14 : law14_live = some true := by
  unfold law14_live
  exact bind_eq lv_f (by kernel_rfl)
end Go.FL
/-
  GP: the law ReportLines.
-/
namespace Go.FL
open Go Go.Proofs

end Go.FL
/-
  GP: the law ReportCarets.
-/
namespace Go.FL
open Go Go.Proofs

def law14_ReportCarets (a0 : Int) (a1 : WT) : Option (Bool) := ((report_Lines a0 a1).bind fun x1 => (Option.bind ((if a0 = 0 then (some true) else (if a1.2.2.2 < 0 then (some true) else ((ref08_Width a1.2.2.1).bind fun x3 => (some (decide (x3 ≤ a1.2.2.2)))))) : Option (Bool)) fun (z2 : Bool) => (if z2 = true then (law14_live.bind fun x4 => (some ((x4 && ((!(decide (a0 = 0))) || (decide (((List.length x1 : Nat) : Int) = 0))))))) else (if ((List.length x1 : Nat) : Int) = 3 then ((report_Prefix a1).bind fun x5 => ((ref08_Width x5).bind fun x6 => (law14_live.bind fun x7 => (Option.bind ((if x7 = true then ((rd? x1 2).bind fun x9 => (if ((ByteArray.size x9 : Nat) : Int) = (w64 ((w64 (x6 + a1.2.2.2)) + 1)) then ((rd? x1 2).bind fun x10 => ((rd? (byts x10) (w64 (x6 + a1.2.2.2))).bind fun x11 => (some (decide (((x11 : Nat) : Int) = 94))))) else (some false))) else (some false)) : Option (Bool)) fun (z7 : Bool) => (some (z7)))))) else (some (false))))))
theorem law14_ReportCarets_ok {a0 : Int} {a1 : WT} {r : Bool} (h : law14_ReportCarets a0 a1 = some r) :
    Fn Try.prog 6 [.i .i64 a0, .ag [.s a1.1, .i .i64 a1.2.1, .s a1.2.2.1, .i .i64 a1.2.2.2]] (.d (.b r)) := by
  unfold law14_ReportCarets at h
  refine Fn.of (rs := [.tmp 4]) (nt := 62) Try.func6 rfl rfl rfl (by simp) rfl ?_
  refine .seq ?_
  refine .region ?_
  refine vk (vbx) ?_
  refine asd ?_
  refine rn ?_
  refine .gh (Gh.keep [0, 3, 4] rfl) ?_
  refine .seq ?_
  refine .region ?_
  refine vk (vmvd) ?_
  refine vk (vlda gA_W gS_W) ?_
  obtain ⟨x1, hx1, h⟩ := bnd h
  refine vk (vcl0 (report_Lines_ok hx1) Try.call27) ?_
  refine asd ?_
  refine rn ?_
  refine .gh (Gh.keep [0, 3, 4, 5] rfl) ?_
  refine .seq ?_
  refine .seq ?_
  obtain ⟨z2, hz, h⟩ := bnd h
  refine AW.mr (σ := Unit) (fun _ => True) (fun _ => [(0, .d (.i .i64 a0)), (3, .d (.ptr [.s a1.1, .i .i64 a1.2.1, .s a1.2.2.1, .i .i64 a1.2.2.2])), (4, .d (.b false)), (5, .d (.sl (Ss x1))), (24, .d (.b z2))]) (fun _ => []) ?_ ?_
  · skip
    refine .drawn 15 mixed (by kernel_rfl) ?_
    refine dv (vmvd) ?_
    refine dv (vbi) ?_
    by_cases hc : a0 = 0
    · replace hz := ite_t hc hz
      have hb0 : (decide (a0 = 0)) = true := (decide_eq_true hc)
      refine dv (VOK.lit (vmvd) hb0) ?_
      refine dgf ?_
      refine dgf ?_
      refine dgf ?_
      refine dv (vpkd) ?_
      refine dv (vmvd) ?_
      refine dgf ?_
      refine dgf ?_
      refine dgf ?_
      refine dgf ?_
      refine dgf ?_
      refine dgf ?_
      refine dv (vpkd) ?_
      refine dz ?_
      refine RL.gh (Gh.keep [0, 3, 4, 5, 24] rfl) ?_
      refine .nil ?_
      cases hz
      exact jr () trivial
    replace hz := ite_f hc hz
    have hb0 : (decide (a0 = 0)) = false := (decide_eq_false hc)
    refine dv (VOK.lit (vmvd) hb0) ?_
    refine dv (vfa gF_W_3) ?_
    refine dv (vldp ga_int) ?_
    refine dv (vbi) ?_
    refine dv (vpkd) ?_
    by_cases hc : a1.2.2.2 < 0
    · replace hz := ite_t hc hz
      have hb1 : (decide (a1.2.2.2 < 0)) = true := (decide_eq_true hc)
      refine dv (VOK.lit (vmvd) hb1) ?_
      refine dgf ?_
      refine dgf ?_
      refine dgf ?_
      refine dgf ?_
      refine dgf ?_
      refine dgf ?_
      refine dv (vpkd) ?_
      refine dz ?_
      refine RL.gh (Gh.keep [0, 3, 4, 5, 24] rfl) ?_
      refine .nil ?_
      cases hz
      exact jr () trivial
    replace hz := ite_f hc hz
    have hb1 : (decide (a1.2.2.2 < 0)) = false := (decide_eq_false hc)
    refine dv (VOK.lit (vmvd) hb1) ?_
    refine dv (vfa gF_W_3) ?_
    refine dv (vldp ga_int) ?_
    refine dv (vfa gF_W_2) ?_
    refine dv (vldp ga_string) ?_
    obtain ⟨x3, hx3, hz⟩ := bnd hz
    refine dv (vcl0 (ref08_Width_ok hx3) Try.call32) ?_
    refine dv (vbi) ?_
    refine dv (vpkd) ?_
    refine dz ?_
    refine RL.gh (Gh.keep [0, 3, 4, 5, 24] rfl) ?_
    refine .nil ?_
    cases hz
    exact jr () trivial
  rintro _ _
  by_cases hc : z2 = true
  · replace h := ite_t hc h
    refine cnt hc ?_
    refine .seq ?_
    obtain ⟨x4, hx4, h⟩ := bnd h
    refine AW.mr (σ := Unit) (fun _ => True) (fun _ => [(3, .d (.ptr [.s a1.1, .i .i64 a1.2.1, .s a1.2.2.1, .i .i64 a1.2.2.2])), (4, .d (.b (x4 && ((!(decide (a0 = 0))) || (decide (((List.length x1 : Nat) : Int) = 0)))))), (5, .d (.sl (Ss x1)))]) (fun _ => []) ?_ ?_
    · skip
      refine .region ?_
      refine vk (vcl0 (law14_live_ok hx4) Try.call25) ?_
      by_cases hc : x4 = true
      · have hb0 : x4 = true := hc
        refine vk (VOK.lit (vmvd) hb0) ?_
        refine vk (vmvd) ?_
        refine vk (vbi) ?_
        by_cases hc : a0 = 0
        · have hb1 : (!(decide (a0 = 0))) = false := (ntf (decide_eq_true hc))
          refine vk (VOK.lit (vmvd) hb1) ?_
          refine vk (vmvd) ?_
          refine vk (vlnE (Ss_length _) (Ss_sz _) gu_Ss) ?_
          refine vk (vbi) ?_
          refine vk (vpkd) ?_
          refine vk (vpkd) ?_
          refine asd ?_
          refine RL.gh (Gh.keep [3, 4, 5] rfl) ?_
          refine .nil ?_
          exact jr () trivial (by simp only [hb0, hb1]; rfl)
        have hb1 : (!(decide (a0 = 0))) = true := (ntt (decide_eq_false hc))
        refine vk (VOK.lit (vmvd) hb1) ?_
        refine gf ?_
        refine gf ?_
        refine gf ?_
        refine vk (vpkd) ?_
        refine vk (vpkd) ?_
        refine asd ?_
        refine RL.gh (Gh.keep [3, 4, 5] rfl) ?_
        refine .nil ?_
        exact jr () trivial (by simp only [hb0, hb1]; rfl)
      have hb0 : x4 = false := (bf hc)
      refine vk (VOK.lit (vmvd) hb0) ?_
      refine gf ?_
      refine gf ?_
      refine gfu ?_
      refine gf ?_
      refine gf ?_
      refine gf ?_
      refine gf ?_
      refine vk (vpkd) ?_
      refine asd ?_
      refine RL.gh (Gh.keep [3, 4, 5] rfl) ?_
      refine .nil ?_
      exact jr () trivial (by simp only [hb0]; rfl)
    rintro _ _
    refine .ret ?_
    cases h
    exact ⟨rfl, rfl⟩
  replace h := ite_f hc h
  refine cnf (bf hc) ?_
  refine .skip ?_
  show AW _ _ _ _ _ _
  refine .seq ?_
  refine .seq ?_
  refine .region ?_
  refine vk (vmvd) ?_
  refine vk (vlnE (Ss_length _) (Ss_sz _) gu_Ss) ?_
  refine vk (vbi) ?_
  refine rn ?_
  refine .gh (Gh.keep [3, 4, 5, 37] rfl) ?_
  by_cases hc : ((List.length x1 : Nat) : Int) = 3
  · replace h := ite_t hc h
    refine cnf (ntf (decide_eq_true hc)) ?_
    refine .skip ?_
    show AW _ _ _ _ _ _
    refine .seq ?_
    refine .drawn 6 mixed (by kernel_rfl) ?_
    refine dv (vlda gA_W gS_W) ?_
    obtain ⟨x5, hx5, h⟩ := bnd h
    refine dv (vcl0 (report_Prefix_ok hx5) Try.call30) ?_
    obtain ⟨x6, hx6, h⟩ := bnd h
    refine dv (vcl0 (ref08_Width_ok hx6) Try.call32) ?_
    refine dv (vfa gF_W_3) ?_
    refine dv (vldp ga_int) ?_
    refine dv (vbi) ?_
    refine dz ?_
    refine asd ?_
    refine rn ?_
    refine .gh (Gh.keep [4, 5, 6] rfl) ?_
    refine .seq ?_
    obtain ⟨x7, hx7, h⟩ := bnd h
    obtain ⟨z7, hz, h⟩ := bnd h
    refine AW.mr (σ := Unit) (fun _ => True) (fun _ => [(4, .d (.b z7))]) (fun _ => []) ?_ ?_
    · skip
      refine .region ?_
      refine vk (vcl0 (law14_live_ok hx7) Try.call25) ?_
      by_cases hc : x7 = true
      · replace hz := ite_t hc hz
        have hb0 : x7 = true := hc
        refine vk (VOK.lit (vmvd) hb0) ?_
        refine vk (vmvd) ?_
        obtain ⟨x9, hx9, hz⟩ := bnd hz
        obtain ⟨nx9, hnx9, hxx9⟩ := rd_some hx9
        refine vk (vix nx9 hnx9 (Ss_at hxx9) rfl gs_Ss) ?_
        refine vk (vldp ga_string) ?_
        refine vk (vlns st) ?_
        refine vk (vmvd) ?_
        refine vk (vbi) ?_
        refine vk (vbi) ?_
        refine vk (vpkd) ?_
        by_cases hc : ((ByteArray.size x9 : Nat) : Int) = (w64 ((w64 (x6 + a1.2.2.2)) + 1))
        · replace hz := ite_t hc hz
          have hb1 : (decide (((ByteArray.size x9 : Nat) : Int) = (w64 ((w64 (x6 + a1.2.2.2)) + 1)))) = true := (decide_eq_true hc)
          refine vk (VOK.lit (vmvd) hb1) ?_
          refine vk (vmvd) ?_
          obtain ⟨x10, hx10, hz⟩ := bnd hz
          obtain ⟨nx10, hnx10, hxx10⟩ := rd_some hx10
          refine vk (vix nx10 hnx10 (Ss_at hxx10) rfl gs_Ss) ?_
          refine vk (vldp ga_string) ?_
          refine vk (vmvd) ?_
          obtain ⟨x11, hx11, hz⟩ := bnd hz
          obtain ⟨nx11, hnx11, hxx11⟩ := rd_some hx11
          refine vk (vids nx11 x11 hnx11 hxx11 st) ?_
          refine vk (vbi) ?_
          refine vk (vpkd) ?_
          refine asd ?_
          refine RL.gh (Gh.keep [4] rfl) ?_
          refine .nil ?_
          cases hz
          exact jr () trivial
        replace hz := ite_f hc hz
        have hb1 : (decide (((ByteArray.size x9 : Nat) : Int) = (w64 ((w64 (x6 + a1.2.2.2)) + 1)))) = false := (decide_eq_false hc)
        refine vk (VOK.lit (vmvd) hb1) ?_
        refine gf ?_
        refine gf ?_
        refine gf ?_
        refine gf ?_
        refine gf ?_
        refine gf ?_
        refine vk (vpkd) ?_
        refine asd ?_
        refine RL.gh (Gh.keep [4] rfl) ?_
        refine .nil ?_
        cases hz
        exact jr () trivial
      replace hz := ite_f hc hz
      have hb0 : x7 = false := (bf hc)
      refine vk (VOK.lit (vmvd) hb0) ?_
      refine gf ?_
      refine gf ?_
      refine gf ?_
      refine gf ?_
      refine gf ?_
      refine gf ?_
      refine gf ?_
      refine vk (vpkd) ?_
      refine vk (vmvd) ?_
      refine gf ?_
      refine gf ?_
      refine gf ?_
      refine gf ?_
      refine gf ?_
      refine gf ?_
      refine vk (vpkd) ?_
      refine asd ?_
      refine RL.gh (Gh.keep [4] rfl) ?_
      refine .nil ?_
      cases hz
      exact jr () trivial
    rintro _ _
    refine .ret ?_
    cases h
    exact ⟨rfl, rfl⟩
  replace h := ite_f hc h
  refine cnt (ntt (decide_eq_false hc)) ?_
  refine .seq ?_
  refine .region ?_
  refine asd ?_
  refine rn ?_
  refine .gh (Gh.keep [3, 4, 5] rfl) ?_
  refine .ret ?_
  cases h
  exact ⟨rfl, rfl⟩
end Go.FL
/-
  Plain laws of reports, 2: ReportLines, ReportCarets.
-/
namespace Go.FL
open Go Go.Proofs

/-- How many characters stand from a place on. -/
def wdF (s : ByteArray) : Nat → Nat → Nat
  | 0, _ => 0
  | k + 1, pos => if pos < s.size then 1 + wdF s k (rnext s pos) else 0
def wd (s : ByteArray) : Nat := wdF s (s.size + 1) 0
theorem next_gt (s : ByteArray) (pos : Nat) : pos < rnext s pos := by
  have := Lib.width_pos s pos
  unfold rnext; omega
theorem wdF_le (s : ByteArray) : ∀ (k pos : Nat), wdF s k pos ≤ s.size - pos
  | 0, _ => Nat.zero_le _
  | k + 1, pos => by
    rw [wdF]
    split
    · have := wdF_le s k (rnext s pos)
      have := next_gt s pos
      omega
    · exact Nat.zero_le _
theorem wd_le (s : ByteArray) : wd s ≤ s.size := wdF_le s _ 0
theorem width_from (s : ByteArray) (hs : s.size ≤ 1125899906842624) : ∀ (k pos j : Nat) (n : Nat), s.size - pos < k → s.size - pos < j → n + (s.size - pos) ≤ 1125899906842624 → report_width_l0 s k (n : Int) pos = some (((n + wdF s j pos : Nat) : Int)) ∧ ref08_Width_l0 s k (n : Int) pos = some (((n + wdF s j pos : Nat) : Int))
  | 0, _, _, _, h, _, _ => by omega
  | _ + 1, _, 0, _, _, h, _ => by omega
  | k + 1, pos, j + 1, n, h1, h2, h3 => by
    rw [report_width_l0, ref08_Width_l0, wdF]
    by_cases hp : pos < s.size
    · have hg := next_gt s pos
      rw [if_pos hp, if_pos hp, if_pos hp]
      have hw : w64 ((n : Int) + 1) = ((n + 1 : Nat) : Int) := by rw [w64_eq (by omega) (by omega)]; rfl
      rw [hw, ← Nat.add_assoc]
      exact width_from s hs k (rnext s pos) j (n + 1) (by omega) (by omega) (by omega)
    · rw [if_neg hp, if_neg hp, if_neg hp]; exact ⟨rfl, rfl⟩
theorem fuel_gt' {n : Nat} (h : n ≤ 562949953421312) : n < FUEL := by unfold FUEL; omega
theorem width_eq {s : ByteArray} (hs : s.size ≤ 562949953421312) : report_width s = some ((wd s : Nat) : Int) ∧ ref08_Width s = some ((wd s : Nat) : Int) := by
  have := width_from s (by omega) FUEL 0 (s.size + 1) 0 (fuel_gt' (by omega)) (by omega) (by omega)
  rw [Nat.zero_add] at this
  exact this
/-- Spaces. -/
def spB (n : Nat) : ByteArray := ⟨(List.replicate n (32 : UInt8)).toArray⟩
theorem spB_size (n : Nat) : (spB n).size = n := by simp [spB, ByteArray.size]
theorem sp_rep {n : Nat} (h : n ≤ 281474976710656) : sRepeat ⟨#[32]⟩ (n : Int) = some (spB n) := by
  have : sRepeat ⟨#[32]⟩ (n : Int) = some (repB ⟨#[32]⟩ (n : Int).toNat) := if_pos ⟨by omega, by omega, .inr ⟨rfl, by omega⟩⟩
  rw [this, Int.toNat_natCast]
  unfold repB spB
  rw [← repeatL_one32]
theorem sap_big {a b : ByteArray} (h : a.size + b.size ≤ 4611686018427387904) : sap? a b = some (a ++ b) := if_pos h
/-- What stands ahead. -/
def preB (w : WT) : ByteArray := if w.1 = ⟨#[]⟩ then spB 6 else w.1 ++ ⟨#[91]⟩ ++ bstr (txtQ (w.2.1 : Rat)) ++ ⟨#[93, 32]⟩
def okW (w : WT) : Prop := w.1.size ≤ 140737488351232 ∧ (-9223372036854775808 ≤ w.2.1 ∧ w.2.1 ≤ 9223372036854775807) ∧ w.2.2.1.size ≤ 140737488351232 ∧ (-9223372036854775808 ≤ w.2.2.2 ∧ w.2.2.2 ≤ 9223372036854775807)
theorem pre_size {w : WT} (h : okW w) : (preB w).size ≤ w.1.size + 6000 := by
  unfold preB
  split
  · rw [spB_size]; omega
  · have := txt_len h.2.1.1 h.2.1.2
    rw [byts_length] at this
    simp only [ByteArray.size_append]
    have e1 : (⟨#[91]⟩ : ByteArray).size = 1 := rfl
    have e2 : (⟨#[93, 32]⟩ : ByteArray).size = 2 := rfl
    omega
theorem pre_eq {w : WT} (h : okW w) : report_Prefix w = some (preB w) ∧ ref14_Prefix w = some (preB w) := by
  unfold report_Prefix ref14_Prefix preB
  have hl := txt_len h.2.1.1 h.2.1.2
  rw [byts_length] at hl
  have e1 : (⟨#[91]⟩ : ByteArray).size = 1 := rfl
  have e2 : (⟨#[93, 32]⟩ : ByteArray).size = 2 := rfl
  have hn := h.1
  by_cases h0 : w.1 = ⟨#[]⟩
  · rw [if_pos h0, if_pos h0, if_pos h0]
    have e : (6 : Int) = ((6 : Nat) : Int) := rfl
    rw [e, sp_rep (by decide)]
    exact ⟨rfl, rfl⟩
  · rw [if_neg h0, if_neg h0, if_neg h0, sap_big (by rw [e1]; omega)]
    simp only [Option.bind_some]
    rw [number_eq h.2.1.1 h.2.1.2, ref_number_eq h.2.1.1 h.2.1.2]
    simp only [Option.bind_some]
    rw [sap_big (by rw [ByteArray.size_append, e1]; omega)]
    simp only [Option.bind_some]
    rw [sap_big (by rw [ByteArray.size_append, ByteArray.size_append, e1, e2]; omega)]
    exact ⟨rfl, rfl⟩
/-- Where the caret stands. -/
def atW (w : WT) : Nat := min w.2.2.2.toNat (wd w.2.2.1)
theorem at_le {w : WT} (h : okW w) : atW w ≤ 140737488351232 := Nat.le_trans (Nat.min_le_right _ _) (Nat.le_trans (wd_le _) h.2.2.1)
theorem car_le {w : WT} (h : okW w) : wd (preB w) + atW w ≤ 281474976710656 := by
  have h1 := wd_le (preB w)
  have h2 := pre_size h
  have h3 := at_le h
  have h4 := h.1
  omega
def linesB (e : Int) (w : WT) : List ByteArray := if e = 0 then [] else [textB e, preB w ++ w.2.2.1, spB (wd (preB w) + atW w) ++ ⟨#[94]⟩]
theorem at_eq {w : WT} (h : okW w) : (if (if ((wd w.2.2.1 : Nat) : Int) < w.2.2.2 then ((wd w.2.2.1 : Nat) : Int) else w.2.2.2) < 0 then 0 else (if ((wd w.2.2.1 : Nat) : Int) < w.2.2.2 then ((wd w.2.2.1 : Nat) : Int) else w.2.2.2)) = ((atW w : Nat) : Int) := by
  unfold atW
  split <;> split <;> omega
theorem lines_eq {e : Int} {w : WT} (h1 : -9223372036854775808 ≤ e) (h2 : e ≤ 9223372036854775807) (h : okW w) : report_Lines e w = some (linesB e w) := by
  unfold report_Lines linesB
  by_cases h0 : e = 0
  · rw [if_pos h0, if_pos h0]
  have hp := pre_size h
  have hn := h.1
  have ht := h.2.2.1
  have hc := car_le h
  have e1 : (⟨#[94]⟩ : ByteArray).size = 1 := rfl
  rw [if_neg h0, if_neg h0, (width_eq (by omega)).1, Option.bind_some, (pre_eq h).1, Option.bind_some, text_eq h1 h2, Option.bind_some, sap_big (by omega), Option.bind_some, (width_eq (by omega)).1, Option.bind_some, at_eq h,
    w64_eq (by omega) (by omega), ← Int.natCast_add, sp_rep hc, Option.bind_some, sap_big (by rw [spB_size, e1]; omega)]
  rfl
theorem wf64 {e : Int} (he : (Lit.int .i64 e).wf = true) : -9223372036854775808 ≤ e ∧ e ≤ 9223372036854775807 := by
  simp only [Lit.wf, IntKind.min, IntKind.max, IntKind.bits, IntKind.signed] at he
  simp at he; omega
theorem caret_at (n : Nat) : (byts (spB n ++ ⟨#[94]⟩))[n]? = some 94 := by
  unfold byts
  rw [ByteArray.data_append]
  simp [spB]
theorem lawCarets {e : Int} {w : WT} (he : (Lit.int .i64 e).wf = true) (h : okW w) : law14_ReportCarets e w = some true := by
  obtain ⟨h1, h2⟩ := wf64 he
  unfold law14_ReportCarets
  have ht := h.2.2.1
  have hp := pre_size h
  have hnm := h.1
  have hc := car_le h
  rw [lines_eq h1 h2 h, Option.bind_some]
  by_cases h0 : e = 0
  · rw [if_pos h0, Option.bind_some, if_pos rfl, live14, Option.bind_some]
    have : linesB e w = [] := if_pos h0
    rw [this, h0]; rfl
  rw [if_neg h0]
  have hout : ∀ b : Bool, b = true → (law14_live.bind fun x4 => (some ((x4 && ((!(decide (e = 0))) || (decide (((List.length (linesB e w) : Nat) : Int) = 0))))))) = some true := by
    intro b _
    rw [live14, Option.bind_some, decide_eq_false h0]; rfl
  by_cases hneg : w.2.2.2 < 0
  · rw [if_pos hneg, Option.bind_some, if_pos rfl]; exact hout true rfl
  rw [if_neg hneg, (width_eq (by omega)).2, Option.bind_some, Option.bind_some]
  by_cases hbig : ((wd w.2.2.1 : Nat) : Int) ≤ w.2.2.2
  · rw [decide_eq_true hbig, if_pos rfl]; exact hout true rfl
  have ha : ((atW w : Nat) : Int) = w.2.2.2 := by unfold atW; omega
  have hlb : linesB e w = [textB e, preB w ++ w.2.2.1, spB (wd (preB w) + atW w) ++ ⟨#[94]⟩] := if_neg h0
  have hsz : (spB (wd (preB w) + atW w) ++ ⟨#[94]⟩).size = wd (preB w) + atW w + 1 := by rw [ByteArray.size_append, spB_size]; rfl
  have hw1 : w64 (((wd (preB w) : Nat) : Int) + w.2.2.2) = ((wd (preB w) + atW w : Nat) : Int) := by rw [← ha, w64_eq (by omega) (by omega)]; omega
  have hw2 : w64 (((wd (preB w) + atW w : Nat) : Int) + 1) = ((wd (preB w) + atW w + 1 : Nat) : Int) := by rw [w64_eq (by omega) (by omega)]; omega
  have hrd : rd? (byts (spB (wd (preB w) + atW w) ++ ⟨#[94]⟩)) ((wd (preB w) + atW w : Nat) : Int) = some 94 := by
    unfold rd?
    rw [if_pos (by omega), Int.toNat_natCast, caret_at]
  rw [decide_eq_false hbig, if_neg (by decide), hlb, if_pos (by rfl), (pre_eq h).1, Option.bind_some, (width_eq (by omega)).2, Option.bind_some, live14, Option.bind_some, if_pos rfl]
  have hr2 : rd? [textB e, preB w ++ w.2.2.1, spB (wd (preB w) + atW w) ++ ⟨#[94]⟩] 2 = some (spB (wd (preB w) + atW w) ++ ⟨#[94]⟩) := rfl
  rw [hr2, Option.bind_some, hsz, hw1, hw2, if_pos rfl, Option.bind_some, hrd, Option.bind_some]
  rfl
end Go.FL
/-
  The statement ReportCaretsSaid: for every input the law gives true, and each argument reads as it read before.
-/
namespace Go.Proofs.Ytcoofpnbnifbbaa.reportCarets
open Go.ChangeShapes Go.WideShapes Go.ChangeAt Go.RowKit Go.FL

theorem own : ownKnob Try.prog.godebug = none := by kernel_rfl
theorem laid : laidOutB Try.prog = true := by kernel_rfl
theorem params : ∀ t ∈ Try.f6.params.toList, Try.prog.readableRec t = true ∧ t < Try.prog.types.size := by
  intro t ht
  simp only [Try.params6, List.mem_cons, List.not_mem_nil, or_false] at ht
  rcases ht with rfl | rfl <;> exact ⟨by kernel_rfl, of_decide_eq_true (by kernel_rfl)⟩
set_option maxRecDepth 100000 in
theorem lifted (os : Os) (started : os.Started) (H : Type) (enc : TypeId × Value → H) :
    ReturnsInHanded {} Try.checked os 6 .any (Rows.reportCaretsSpec.pre6 enc Try.prog Try.f6 Rows.reportCaretsRow.domain false) (Rows.reportCaretsSpec.post enc Try.prog Try.f6 false true false false) := by
  refine returnsInHanded_of_change_sized (C := Try.checked) own started (by kernel_rfl) Try.func6
    (ChangeSpec.witness6 (enc := enc) (C := Try.checked) false ⟨#[], #[.int .i64 0, .agg #[.string ByteArray.empty, .int .i64 0, .string ByteArray.empty, .int .i64 0]], []⟩ 8 (by kernel_rfl) (by kernel_rfl) (by kernel_rfl) (by kernel_rfl)) ?_
  intro W base args ds gs before hval0 hW hcnd hsz _
  have hval : ∀ (j : Nat) t v, Try.f6.params[j]? = some t → args[j]? = some v → Value.okWide Try.prog W .any base t v := hval0
  have hW' := hW
  obtain ⟨p, q, hA0, hV, rfl, hfz, hnd⟩ := hW
  have hA : DataW.TrodAll enc Try.prog W 0 (fun _ => true) true Try.f6.params.toList args.toList ds p := hA0
  rw [Try.params6] at hA hval
  obtain ⟨v0, vs0, d0, ds0, p0, q0, hargs, rfl, rfl, h0, r0⟩ := trodAll_cons hA
  obtain ⟨v1, vs1, d1, ds1, p1, q1, rfl, rfl, rfl, h1, r1⟩ := trodAll_cons r0
  obtain ⟨rfl, rfl, rfl⟩ := trodAll_nil r1
  obtain rfl : args = #[v0, v1] := by cases args; simp_all
  obtain ⟨rfl, rfl⟩ := trodVars_none hV
  rw [Try.params6] at hsz
  have w0 : ∀ m ∈ DataW.weights Try.prog 29 d0, m ≤ reachBytes := fun m hm => by simpa using List.all_eq_true.1 hsz m (DataW.weights_mem_each (j := 0) rfl rfl m hm)
  obtain ⟨a0, o0, e0⟩ := arg_int (by kernel_rfl : Try.prog.underlying 29 = some (.int .i64)) (hval 0 29 v0 rfl rfl) h0
  have w1 : ∀ m ∈ DataW.weights Try.prog 50 d1, m ≤ reachBytes := fun m hm => by simpa using List.all_eq_true.1 hsz m (DataW.weights_mem_each (j := 1) rfl rfl m hm)
  obtain ⟨a1, o1, e1⟩ := arg_agg (v := v1) op_where (let ⟨cs, h, _⟩ := okWide_struct (P := Try.prog) Try.underlying50 (hval 1 50 v1 rfl rfl); ⟨cs, h⟩) h1 w1
  refine (law_calls (law14_ReportCarets_ok (lawCarets o0 o1)) (.cons e0 (.cons e1 .nil))).mono fun e W' ⟨he, hb⟩ => ?_
  subst he
  exact ⟨_, rfl, post_law hW' rfl (fun _ => rfl) rfl Try.underlying4 laid params hb⟩

theorem over : Rows.reportCaretsRow.holds Try.pinned (OpenSpec.ofChange Rows.reportCaretsSpec) :=
  OpenClaim.holds_of_wide 6 Try.f6 rfl rfl rfl rfl rfl rfl rfl ⟨rfl, rfl, rfl, rfl, rfl⟩ rfl rfl rfl rfl rfl (by kernel_rfl) Try.func6 (by kernel_rfl)
    (of_decide_eq_true (by kernel_rfl)) (by unfold Func.isWrapper; first | (rw [if_pos (by decide +kernel)]; kernel_rfl) | (rw [if_neg (by decide +kernel)]; exact ⟨rfl, rfl⟩))
    (fun os started H enc _ => lifted os started H enc)

theorem proved : Rows.ReportCaretsSaid :=
  over
end Go.Proofs.Ytcoofpnbnifbbaa.reportCarets
