/-
  The law: its function printed as a pure function, its contract, the plain law, the statement
-/
import Derived.Test.YtcoofpnbnifbbaaRoD
import Derived.Test.YtcoofpnbnifbbaaRows
set_option linter.unusedVariables false
/-
  GP: the law RatMakes.
-/
namespace Go.FL
open Go Go.Proofs

end Go.FL
/-
  GP: the law RatReckons.
-/
namespace Go.FL
open Go Go.Proofs

end Go.FL
/-
  GP: the law RatOrders.
-/
namespace Go.FL
open Go Go.Proofs

end Go.FL
/-
  GP: the law RatRounds.
-/
namespace Go.FL
open Go Go.Proofs

end Go.FL
/-
  Plain laws, rat 7: RatMakes, RatReckons, RatOrders, RatRounds.
-/
namespace Go.FL
open Go Go.Proofs

end Go.FL
/-
  GP: the law RatBack.
-/
namespace Go.FL
open Go Go.Proofs

end Go.FL
/-
  GP: the law RatResidues.
-/
namespace Go.FL
open Go Go.Proofs

end Go.FL
/-
  Plain laws, rat 8: RatBack, RatResidues.
-/
namespace Go.FL
open Go Go.Proofs

end Go.FL
/-
  GP: the law RatCompares.
-/
namespace Go.FL
open Go Go.Proofs

end Go.FL
/-
  Plain laws, rat 9: RatCompares.
-/
namespace Go.FL
open Go Go.Proofs

def absR (p : Rat) : Rat := if p < 0 then -p else p
def maxA (p q : Rat) : Rat := if absR p < absR q then absR q else absR p
def within (c p q : Rat) : Prop := absR (p - q) ≤ c * maxA p q
instance (c p q : Rat) : Decidable (within c p q) := inferInstanceAs (Decidable (_ ≤ _))
end Go.FL
/-
  Plain laws, rat 10: RatCompares, the reference's side and the law.
-/
namespace Go.FL
open Go Go.Proofs

end Go.FL
/-
  GP: the law RatPowers.
-/
namespace Go.FL
open Go Go.Proofs

end Go.FL
/-
  Plain laws, rat 11: powers, RatPowers.
-/
namespace Go.FL
open Go Go.Proofs

theorem equal_digs {m n : Nat} (hm : (digs m).length ≤ 1048576) (hn : (digs n).length ≤ 1048576) : sEqualL (digs m) (digs n) = some (decide (m = n)) := by
  rw [equalL_eq (okL_digs hm) (okL_digs (by omega))]
  congr 1
  exact decide_eq_decide.2 ⟨digs_inj, fun h => by rw [h]⟩
end Go.FL
/-
  GP: the law TopField.
-/
namespace Go.FL
open Go Go.Proofs

end Go.FL
/-
  Plain laws, rat 12: printing a number, TopField.
-/
namespace Go.FL
open Go Go.Proofs

theorem nPrint_eq {n : Nat} (h : (digs n).length ≤ 1048576) : nPrint (digs n) = some (bstr (decT n)) := by
  unfold nPrint; rw [if_pos (okL_digs h), val_digs]
/-- The text of a number. -/
def txtQ (p : Rat) : List Nat := (if p.num < 0 then [194, 175] else []) ++ (decT p.num.natAbs ++ (if p.den = 1 then [] else 114 :: decT p.den))
theorem sap_eq {a b : List Nat} (h : a.length + b.length ≤ 100000) : sap? (bstr a) (bstr b) = some (bstr (a ++ b)) := by
  unfold sap?
  rw [if_pos, bstr_append]
  have h1 : ∀ l : List Nat, (bstr l).size = l.length := fun l => by simp [bstr, ByteArray.size]
  rw [h1, h1]; exact Nat.le_trans h (by decide)
theorem small_lt {n : Nat} (h : small n) : n < 4294967296 ^ 32 := by
  have := val_lt (digs_ok n)
  rw [val_digs] at this
  exact Nat.lt_of_lt_of_le this (Nat.pow_le_pow_right (by decide) h)
set_option exponentiation.threshold 2000 in
theorem small_dec {n : Nat} (h : small n) : (decT n).length ≤ 310 := decT_len (k := 309) (Nat.lt_trans (small_lt h) (by decide))
theorem print_q {p : Rat} (hp : fits p) : rat_Print (ofQ p) = some (bstr (txtQ p)) := by
  unfold rat_Print
  have l1 := small_dec hp.1
  have l2 := small_dec hp.2
  have e1 : nPrint (ofQ p).2.1 = some (bstr (decT p.num.natAbs)) := nPrint_eq (Nat.le_trans hp.1 (by decide))
  have e2 : nPrint (ofQ p).2.2 = some (bstr (decT p.den)) := nPrint_eq (Nat.le_trans hp.2 (by decide))
  have e3 : sEqualL (ofQ p).2.2 [1] = some (decide (p.den = 1)) := by rw [← one_digs]; exact equal_digs (Nat.le_trans hp.2 (by decide)) (by rw [one_digs]; decide)
  have s1 : sap? (⟨#[194, 175]⟩ : ByteArray) (bstr (decT p.num.natAbs)) = some (bstr ([194, 175] ++ decT p.num.natAbs)) := sap_eq (a := [194, 175]) (by simp; omega)
  have s2 : sap? (⟨#[114]⟩ : ByteArray) (bstr (decT p.den)) = some (bstr ([114] ++ decT p.den)) := sap_eq (a := [114]) (by simp; omega)
  rw [ratRight_eq (ofQ_okRB hp), ofQ_right hp, Option.bind_some, if_pos rfl, e1, Option.bind_some, ratOne_eq]
  show (if decide (p.num < 0) = true then _ else _) = _
  unfold txtQ
  by_cases hs : p.num < 0
  · rw [if_pos (decide_eq_true hs), s1, Option.bind_some, Option.bind_some, e3, Option.bind_some, if_pos hs]
    by_cases hd : p.den = 1
    · rw [if_pos (decide_eq_true hd), if_pos hd, List.append_nil]
    · rw [if_neg (by simpa using hd), e2, Option.bind_some, s2, Option.bind_some, sap_eq (by simp; omega), Option.bind_some, if_neg hd, List.append_assoc]; rfl
  · rw [if_neg (by simpa using hs), Option.bind_some, e3, Option.bind_some, if_neg hs, List.nil_append]
    by_cases hd : p.den = 1
    · rw [if_pos (decide_eq_true hd), if_pos hd, List.append_nil]
    · rw [if_neg (by simpa using hd), e2, Option.bind_some, s2, Option.bind_some, sap_eq (by simp; omega), Option.bind_some, if_neg hd]; rfl
end Go.FL
/-
  GP: the law RatPascal.
-/
namespace Go.FL
open Go Go.Proofs

end Go.FL
/-
  Plain laws, rat 13: RatPascal.
-/
namespace Go.FL
open Go Go.Proofs

/-- The number of ways to choose. -/
def ch : Nat → Nat → Nat
  | _, 0 => 1
  | 0, _ + 1 => 0
  | n + 1, k + 1 => ch n k + ch n (k + 1)
theorem few {n : Nat} (h : n < 4294967296) (k : Nat) : (digs n).length ≤ k + 1 := Nat.le_trans (few_len h) (by omega)
end Go.FL
/-
  GP: the law RatTexts.
-/
namespace Go.FL
open Go Go.Proofs

end Go.FL
/-
  Plain laws, rat 15: reading a text.
-/
namespace Go.FL
open Go Go.Proofs

end Go.FL
/-
  Plain laws, rat 16: reading a text, the reference's side.
-/
namespace Go.FL
open Go Go.Proofs

theorem ref_print_q {p : Rat} (hp : fits p) : ref02_Print (ofQ p) = some (bstr (txtQ p)) := by
  unfold ref02_Print
  have l1 := small_dec hp.1
  have l2 := small_dec hp.2
  have r1P : ∀ {n : Nat}, (digs n).length ≤ 100000 → r1Print (digs n) = some (bstr (decT n)) := fun {n} h => by unfold r1Print; rw [if_pos (okL_digs h), val_digs]
  have e1 : r1Print (ofQ p).2.1 = some (bstr (decT p.num.natAbs)) := r1P (Nat.le_trans hp.1 (by decide))
  have e2 : r1Print (ofQ p).2.2 = some (bstr (decT p.den)) := r1P (Nat.le_trans hp.2 (by decide))
  have e3 : r1Same (ofQ p).2.2 [1] = some (decide (p.den = 1)) := by
    unfold r1Same
    rw [if_pos (show (ofQ p).2.2.length ≤ 35184372087808 from Nat.le_trans hp.2 (by decide)), ← one_digs]
    congr 1
    exact decide_eq_decide.2 ⟨digs_inj, fun h => by show digs p.den = digs 1; rw [h]⟩
  have s1 : sap? (⟨#[194, 175]⟩ : ByteArray) (bstr (decT p.num.natAbs)) = some (bstr ([194, 175] ++ decT p.num.natAbs)) := sap_eq (a := [194, 175]) (by simp; omega)
  have s2 : sap? (⟨#[114]⟩ : ByteArray) (bstr (decT p.den)) = some (bstr ([114] ++ decT p.den)) := sap_eq (a := [114]) (by simp; omega)
  rw [ref2Right_eq (ofQ_okRB hp), ofQ_right hp, Option.bind_some, if_pos rfl, e1, Option.bind_some, ref2One_eq]
  show (if decide (p.num < 0) = true then _ else _) = _
  unfold txtQ
  by_cases hs : p.num < 0
  · rw [if_pos (decide_eq_true hs), s1, Option.bind_some, Option.bind_some, e3, Option.bind_some, if_pos hs]
    by_cases hd : p.den = 1
    · rw [if_pos (decide_eq_true hd), if_pos hd, List.append_nil]
    · rw [if_neg (by simpa using hd), e2, Option.bind_some, s2, Option.bind_some, sap_eq (by simp; omega), Option.bind_some, if_neg hd, List.append_assoc]; rfl
  · rw [if_neg (by simpa using hs), Option.bind_some, e3, Option.bind_some, if_neg hs, List.nil_append]
    by_cases hd : p.den = 1
    · rw [if_pos (decide_eq_true hd), if_pos hd, List.append_nil]
    · rw [if_neg (by simpa using hd), e2, Option.bind_some, s2, Option.bind_some, sap_eq (by simp; omega), Option.bind_some, if_neg hd]; rfl
end Go.FL
/-
  GP: the law ReportTexts.
-/
namespace Go.FL
open Go Go.Proofs

end Go.FL
/-
  GP: the law ReportBack.
-/
namespace Go.FL
open Go Go.Proofs

end Go.FL
/-
  Plain laws of reports: ReportTexts, ReportBack.
-/
namespace Go.FL
open Go Go.Proofs

/-- The text of an error's number. -/
def numB (e : Int) : ByteArray := (⟨#[69, 82, 82, 79, 82, 32]⟩ : ByteArray) ++ bstr (txtQ (e : Rat))
def textB (e : Int) : ByteArray := if e = 0 then ⟨#[]⟩ else if e = 9 then ⟨#[73, 78, 84, 69, 82, 82, 85, 80, 84]⟩ else if wordB e = ⟨#[]⟩ then numB e else wordB e ++ (⟨#[32, 69, 82, 82, 79, 82]⟩ : ByteArray)
theorem word_size (e : Int) : (byts (wordB e)).length ≤ 100 := by
  have h : ∀ i : Fin 29, (byts (words.getD i.val ⟨#[]⟩)).length ≤ 100 := by decide +kernel
  unfold wordB
  split
  · by_cases hi : e.toNat < 29
    · exact h ⟨e.toNat, hi⟩
    · rw [List.getD_eq_getElem?_getD, List.getElem?_eq_none (by show 29 ≤ e.toNat; omega)]; exact Nat.zero_le _
  · exact Nat.zero_le _
theorem word_none {e : Int} (h : e ≤ 0 ∨ 9 ≤ e) (h2 : e ≠ 28) : wordB e = ⟨#[]⟩ := by
  have hw : ∀ i : Fin 29, (i.val = 0 ∨ 9 ≤ i.val) → i.val ≠ 28 → words.getD i.val ⟨#[]⟩ = ⟨#[]⟩ := by decide +kernel
  unfold wordB
  split
  · by_cases hi : e.toNat < 29
    · exact hw ⟨e.toNat, hi⟩ (by show e.toNat = 0 ∨ 9 ≤ e.toNat; omega) (by show e.toNat ≠ 28; omega)
    · rw [List.getD_eq_getElem?_getD, List.getElem?_eq_none (by show 29 ≤ e.toNat; omega)]; rfl
  · rfl
theorem txt_len {e : Int} (h1 : -9223372036854775808 ≤ e) (h2 : e ≤ 9223372036854775807) : (byts (bstr (txtQ (e : Rat)))).length ≤ 5000 := by
  have l1 := small_dec (fits_int h1 (by omega)).1
  rw [byts_length]
  have : (bstr (txtQ (e : Rat))).size = (txtQ (e : Rat)).length := by simp [bstr, ByteArray.size]
  rw [this]
  unfold txtQ
  rw [Rat.den_intCast, if_pos rfl, List.append_nil, List.length_append]
  have : (if (e : Rat).num < 0 then [194, 175] else ([] : List Nat)).length ≤ 2 := by split <;> simp
  omega
theorem number_eq {e : Int} (h1 : -9223372036854775808 ≤ e) (h2 : e ≤ 9223372036854775807) : report_number e = some (bstr (txtQ (e : Rat))) := by
  unfold report_number
  rw [ofInt_q h1 h2, Option.bind_some, print_q (fits_int h1 (by omega))]; rfl
theorem ref_number_eq {e : Int} (h1 : -9223372036854775808 ≤ e) (h2 : e ≤ 9223372036854775807) : ref14_number e = some (bstr (txtQ (e : Rat))) := by
  unfold ref14_number
  rw [ref_ofInt_q h1 h2, Option.bind_some, ref_print_q (fits_int h1 (by omega))]; rfl
theorem repWord_eq (e : Int) : repWord e = some (wordB e) := if_pos trivial
theorem text_eq {e : Int} (h1 : -9223372036854775808 ≤ e) (h2 : e ≤ 9223372036854775807) : report_Text e = some (textB e) := by
  unfold report_Text textB
  rw [repWord_eq, Option.bind_some]
  by_cases h0 : e = 0
  · rw [if_pos h0, if_pos h0]
  · rw [if_neg h0, if_neg h0]
    by_cases h9 : e = 9
    · rw [if_pos h9, if_pos h9]
    · rw [if_neg h9, if_neg h9]
      by_cases hw : wordB e = ⟨#[]⟩
      · have hl := txt_len h1 h2
        rw [if_pos hw, if_pos hw, number_eq h1 h2, Option.bind_some, sap_ok (Nat.le_trans (Nat.add_le_add_left hl _) (by decide))]; rfl
      · rw [if_neg hw, if_neg hw, sap_ok (Nat.le_trans (Nat.add_le_add_right (word_size e) _) (by decide))]; rfl
def rwords : List ByteArray := [(⟨#[]⟩ : ByteArray), (⟨#[83, 89, 78, 84, 65, 88, 32, 69, 82, 82, 79, 82]⟩ : ByteArray), (⟨#[86, 65, 76, 85, 69, 32, 69, 82, 82, 79, 82]⟩ : ByteArray), (⟨#[68, 79, 77, 65, 73, 78, 32, 69, 82, 82, 79, 82]⟩ : ByteArray), (⟨#[82, 65, 78, 75, 32, 69, 82, 82, 79, 82]⟩ : ByteArray), (⟨#[76, 69, 78, 71, 84, 72, 32, 69, 82, 82, 79, 82]⟩ : ByteArray), (⟨#[73, 78, 68, 69, 88, 32, 69, 82, 82, 79, 82]⟩ : ByteArray), (⟨#[65, 88, 73, 83, 32, 69, 82, 82, 79, 82]⟩ : ByteArray), (⟨#[76, 73, 77, 73, 84, 32, 69, 82, 82, 79, 82]⟩ : ByteArray), (⟨#[73, 78, 84, 69, 82, 82, 85, 80, 84]⟩ : ByteArray)]
theorem rwords_eq : ref14_words = some rwords := rfl
theorem rw_at (i : Nat) (h : i ≤ 9) : rd? rwords (i : Int) = some (textB i) := by
  match i, h with
  | 0, _ => exact (by kernel_rfl : rd? rwords ((0 : Nat) : Int) = some (textB ((0 : Nat) : Int)))
  | 1, _ => exact (by kernel_rfl : rd? rwords ((1 : Nat) : Int) = some (textB ((1 : Nat) : Int)))
  | 2, _ => exact (by kernel_rfl : rd? rwords ((2 : Nat) : Int) = some (textB ((2 : Nat) : Int)))
  | 3, _ => exact (by kernel_rfl : rd? rwords ((3 : Nat) : Int) = some (textB ((3 : Nat) : Int)))
  | 4, _ => exact (by kernel_rfl : rd? rwords ((4 : Nat) : Int) = some (textB ((4 : Nat) : Int)))
  | 5, _ => exact (by kernel_rfl : rd? rwords ((5 : Nat) : Int) = some (textB ((5 : Nat) : Int)))
  | 6, _ => exact (by kernel_rfl : rd? rwords ((6 : Nat) : Int) = some (textB ((6 : Nat) : Int)))
  | 7, _ => exact (by kernel_rfl : rd? rwords ((7 : Nat) : Int) = some (textB ((7 : Nat) : Int)))
  | 8, _ => exact (by kernel_rfl : rd? rwords ((8 : Nat) : Int) = some (textB ((8 : Nat) : Int)))
  | 9, _ => exact (by kernel_rfl : rd? rwords ((9 : Nat) : Int) = some (textB ((9 : Nat) : Int)))
  | n + 10, h => omega
theorem text28 : textB 28 = ⟨#[68, 69, 70, 78, 32, 69, 82, 82, 79, 82]⟩ := by kernel_rfl
theorem ref_text_eq {e : Int} (h1 : -9223372036854775808 ≤ e) (h2 : e ≤ 9223372036854775807) : ref14_Text e = some (textB e) := by
  unfold ref14_Text
  rw [rwords_eq]
  by_cases hr : 0 ≤ e ∧ e ≤ 9
  · obtain ⟨i, rfl⟩ : ∃ i : Nat, e = (i : Int) := ⟨e.toNat, by omega⟩
    rw [if_pos hr.1, Option.bind_some, Option.bind_some, if_pos (by rw [decide_eq_true_eq]; show (i : Int) < 10; omega), Option.bind_some, rw_at i (by omega)]; rfl
  · have hz : (if 0 ≤ e then ((some rwords).bind fun x2 => (some (decide (e < ((List.length x2 : Nat) : Int))))) else (some false)) = some false := by
      split
      · rw [Option.bind_some]
        congr 1
        rw [decide_eq_false_iff_not]
        show ¬ e < 10
        omega
      · rfl
    rw [hz, Option.bind_some, if_neg (by decide)]
    by_cases h28 : e = 28
    · subst h28; rw [if_pos rfl, text28]
    · have hl := txt_len h1 h2
      have hw := word_none (e := e) (by omega) h28
      rw [if_neg h28, ref_number_eq h1 h2, Option.bind_some, sap_ok (Nat.le_trans (Nat.add_le_add_left hl _) (by decide))]
      unfold textB
      rw [if_neg (by omega), if_neg (by omega), if_pos hw]; rfl
theorem lv_a : report_width ⟨#[49, 32, 50, 43, 49, 32, 50, 32, 51]⟩ = some 9 := by kernel_rfl
theorem lv_b : report_Prefix (ByteArray.empty, 0, (⟨#[49, 32, 50, 43, 49, 32, 50, 32, 51]⟩ : ByteArray), 3) = some ⟨#[32, 32, 32, 32, 32, 32]⟩ := by kernel_rfl
theorem lv_c : report_Text 5 = some ⟨#[76, 69, 78, 71, 84, 72, 32, 69, 82, 82, 79, 82]⟩ := by kernel_rfl
theorem lv_d : report_width ⟨#[32, 32, 32, 32, 32, 32]⟩ = some 6 := by kernel_rfl
theorem lv_f : report_Lines 5 (ByteArray.empty, 0, (⟨#[49, 32, 50, 43, 49, 32, 50, 32, 51]⟩ : ByteArray), 3) = some [⟨#[76, 69, 78, 71, 84, 72, 32, 69, 82, 82, 79, 82]⟩, ⟨#[32, 32, 32, 32, 32, 32, 49, 32, 50, 43, 49, 32, 50, 32, 51]⟩, ⟨#[32, 32, 32, 32, 32, 32, 32, 32, 32, 94]⟩] := by
  unfold report_Lines
  rw [if_neg (by decide)]
  refine bind_eq lv_a ?_
  refine bind_eq lv_b ?_
  refine bind_eq lv_c ?_
  refine bind_eq (a := ⟨#[32, 32, 32, 32, 32, 32, 49, 32, 50, 43, 49, 32, 50, 32, 51]⟩) (by kernel_rfl) ?_
  refine bind_eq lv_d ?_
  refine bind_eq (a := ⟨#[32, 32, 32, 32, 32, 32, 32, 32, 32]⟩) (by kernel_rfl) ?_
  exact bind_eq (a := ⟨#[32, 32, 32, 32, 32, 32, 32, 32, 32, 94]⟩) (by kernel_rfl) rfl
theorem live14 : law14_live = some true := by
  unfold law14_live
  exact bind_eq lv_f (by kernel_rfl)
end Go.FL
/-
  GP: the law ReportLines.
-/
namespace Go.FL
open Go Go.Proofs

end Go.FL
/-
  GP: the law ReportCarets.
-/
namespace Go.FL
open Go Go.Proofs

end Go.FL
/-
  Plain laws of reports, 2: ReportLines, ReportCarets.
-/
namespace Go.FL
open Go Go.Proofs

/-- How many characters stand from a place on. -/
def wdF (s : ByteArray) : Nat → Nat → Nat
  | 0, _ => 0
  | k + 1, pos => if pos < s.size then 1 + wdF s k (rnext s pos) else 0
def wd (s : ByteArray) : Nat := wdF s (s.size + 1) 0
theorem next_gt (s : ByteArray) (pos : Nat) : pos < rnext s pos := by
  have := Lib.width_pos s pos
  unfold rnext; omega
theorem wdF_le (s : ByteArray) : ∀ (k pos : Nat), wdF s k pos ≤ s.size - pos
  | 0, _ => Nat.zero_le _
  | k + 1, pos => by
    rw [wdF]
    split
    · have := wdF_le s k (rnext s pos)
      have := next_gt s pos
      omega
    · exact Nat.zero_le _
theorem wd_le (s : ByteArray) : wd s ≤ s.size := wdF_le s _ 0
theorem width_from (s : ByteArray) (hs : s.size ≤ 1125899906842624) : ∀ (k pos j : Nat) (n : Nat), s.size - pos < k → s.size - pos < j → n + (s.size - pos) ≤ 1125899906842624 → report_width_l0 s k (n : Int) pos = some (((n + wdF s j pos : Nat) : Int)) ∧ ref08_Width_l0 s k (n : Int) pos = some (((n + wdF s j pos : Nat) : Int))
  | 0, _, _, _, h, _, _ => by omega
  | _ + 1, _, 0, _, _, h, _ => by omega
  | k + 1, pos, j + 1, n, h1, h2, h3 => by
    rw [report_width_l0, ref08_Width_l0, wdF]
    by_cases hp : pos < s.size
    · have hg := next_gt s pos
      rw [if_pos hp, if_pos hp, if_pos hp]
      have hw : w64 ((n : Int) + 1) = ((n + 1 : Nat) : Int) := by rw [w64_eq (by omega) (by omega)]; rfl
      rw [hw, ← Nat.add_assoc]
      exact width_from s hs k (rnext s pos) j (n + 1) (by omega) (by omega) (by omega)
    · rw [if_neg hp, if_neg hp, if_neg hp]; exact ⟨rfl, rfl⟩
theorem fuel_gt' {n : Nat} (h : n ≤ 562949953421312) : n < FUEL := by unfold FUEL; omega
theorem width_eq {s : ByteArray} (hs : s.size ≤ 562949953421312) : report_width s = some ((wd s : Nat) : Int) ∧ ref08_Width s = some ((wd s : Nat) : Int) := by
  have := width_from s (by omega) FUEL 0 (s.size + 1) 0 (fuel_gt' (by omega)) (by omega) (by omega)
  rw [Nat.zero_add] at this
  exact this
/-- Spaces. -/
def spB (n : Nat) : ByteArray := ⟨(List.replicate n (32 : UInt8)).toArray⟩
theorem spB_size (n : Nat) : (spB n).size = n := by simp [spB, ByteArray.size]
theorem sp_rep {n : Nat} (h : n ≤ 281474976710656) : sRepeat ⟨#[32]⟩ (n : Int) = some (spB n) := by
  have : sRepeat ⟨#[32]⟩ (n : Int) = some (repB ⟨#[32]⟩ (n : Int).toNat) := if_pos ⟨by omega, by omega, .inr ⟨rfl, by omega⟩⟩
  rw [this, Int.toNat_natCast]
  unfold repB spB
  rw [← repeatL_one32]
theorem spB_succ (n : Nat) : spB n ++ (⟨#[32]⟩ : ByteArray) = spB (n + 1) := by
  apply ByteArray.ext
  apply Array.ext'
  simp [spB, ByteArray.data_append, List.replicate_succ']
theorem sap_big {a b : ByteArray} (h : a.size + b.size ≤ 4611686018427387904) : sap? a b = some (a ++ b) := if_pos h
/-- What stands ahead. -/
def preB (w : WT) : ByteArray := if w.1 = ⟨#[]⟩ then spB 6 else w.1 ++ ⟨#[91]⟩ ++ bstr (txtQ (w.2.1 : Rat)) ++ ⟨#[93, 32]⟩
def okW (w : WT) : Prop := w.1.size ≤ 140737488351232 ∧ (-9223372036854775808 ≤ w.2.1 ∧ w.2.1 ≤ 9223372036854775807) ∧ w.2.2.1.size ≤ 140737488351232 ∧ (-9223372036854775808 ≤ w.2.2.2 ∧ w.2.2.2 ≤ 9223372036854775807)
theorem pre_size {w : WT} (h : okW w) : (preB w).size ≤ w.1.size + 6000 := by
  unfold preB
  split
  · rw [spB_size]; omega
  · have := txt_len h.2.1.1 h.2.1.2
    rw [byts_length] at this
    simp only [ByteArray.size_append]
    have e1 : (⟨#[91]⟩ : ByteArray).size = 1 := rfl
    have e2 : (⟨#[93, 32]⟩ : ByteArray).size = 2 := rfl
    omega
theorem pre_eq {w : WT} (h : okW w) : report_Prefix w = some (preB w) ∧ ref14_Prefix w = some (preB w) := by
  unfold report_Prefix ref14_Prefix preB
  have hl := txt_len h.2.1.1 h.2.1.2
  rw [byts_length] at hl
  have e1 : (⟨#[91]⟩ : ByteArray).size = 1 := rfl
  have e2 : (⟨#[93, 32]⟩ : ByteArray).size = 2 := rfl
  have hn := h.1
  by_cases h0 : w.1 = ⟨#[]⟩
  · rw [if_pos h0, if_pos h0, if_pos h0]
    have e : (6 : Int) = ((6 : Nat) : Int) := rfl
    rw [e, sp_rep (by decide)]
    exact ⟨rfl, rfl⟩
  · rw [if_neg h0, if_neg h0, if_neg h0, sap_big (by rw [e1]; omega)]
    simp only [Option.bind_some]
    rw [number_eq h.2.1.1 h.2.1.2, ref_number_eq h.2.1.1 h.2.1.2]
    simp only [Option.bind_some]
    rw [sap_big (by rw [ByteArray.size_append, e1]; omega)]
    simp only [Option.bind_some]
    rw [sap_big (by rw [ByteArray.size_append, ByteArray.size_append, e1, e2]; omega)]
    exact ⟨rfl, rfl⟩
/-- Where the caret stands. -/
def atW (w : WT) : Nat := min w.2.2.2.toNat (wd w.2.2.1)
theorem at_le {w : WT} (h : okW w) : atW w ≤ 140737488351232 := Nat.le_trans (Nat.min_le_right _ _) (Nat.le_trans (wd_le _) h.2.2.1)
theorem car_le {w : WT} (h : okW w) : wd (preB w) + atW w ≤ 281474976710656 := by
  have h1 := wd_le (preB w)
  have h2 := pre_size h
  have h3 := at_le h
  have h4 := h.1
  omega
def linesB (e : Int) (w : WT) : List ByteArray := if e = 0 then [] else [textB e, preB w ++ w.2.2.1, spB (wd (preB w) + atW w) ++ ⟨#[94]⟩]
theorem at_eq {w : WT} (h : okW w) : (if (if ((wd w.2.2.1 : Nat) : Int) < w.2.2.2 then ((wd w.2.2.1 : Nat) : Int) else w.2.2.2) < 0 then 0 else (if ((wd w.2.2.1 : Nat) : Int) < w.2.2.2 then ((wd w.2.2.1 : Nat) : Int) else w.2.2.2)) = ((atW w : Nat) : Int) := by
  unfold atW
  split <;> split <;> omega
theorem lines_eq {e : Int} {w : WT} (h1 : -9223372036854775808 ≤ e) (h2 : e ≤ 9223372036854775807) (h : okW w) : report_Lines e w = some (linesB e w) := by
  unfold report_Lines linesB
  by_cases h0 : e = 0
  · rw [if_pos h0, if_pos h0]
  have hp := pre_size h
  have hn := h.1
  have ht := h.2.2.1
  have hc := car_le h
  have e1 : (⟨#[94]⟩ : ByteArray).size = 1 := rfl
  rw [if_neg h0, if_neg h0, (width_eq (by omega)).1, Option.bind_some, (pre_eq h).1, Option.bind_some, text_eq h1 h2, Option.bind_some, sap_big (by omega), Option.bind_some, (width_eq (by omega)).1, Option.bind_some, at_eq h,
    w64_eq (by omega) (by omega), ← Int.natCast_add, sp_rep hc, Option.bind_some, sap_big (by rw [spB_size, e1]; omega)]
  rfl
theorem ref_l1 {e : Int} {w : WT} (h1 : -9223372036854775808 ≤ e) (h2 : e ≤ 9223372036854775807) (h : okW w) (m : Nat) (hm : wd (preB w) + m ≤ 281474976710656)  : ∀ (n i k : Nat), n = wd (preB w) + m - i → i ≤ wd (preB w) + m → n < k →
    ref14_Lines_l1 e w (m : Int) k (spB i) (i : Int) = some [textB e, preB w ++ w.2.2.1, spB (wd (preB w) + m) ++ ⟨#[94]⟩]
  | _, _, 0, _, _, h => by omega
  | n, i, k + 1, hn, hi, hk => by
    have hp := pre_size h
    have hnm := h.1
    have ht := h.2.2.1
    have e1 : (⟨#[94]⟩ : ByteArray).size = 1 := rfl
    have e2 : (⟨#[32]⟩ : ByteArray).size = 1 := rfl
    have hw : w64 (((wd (preB w) : Nat) : Int) + (m : Int)) = ((wd (preB w) + m : Nat) : Int) := by
      rw [show ((m : Int) : Int) = (m : Int) from rfl, w64_eq (by omega) (by omega)]; omega
    rw [ref14_Lines_l1, (pre_eq h).2, Option.bind_some, (width_eq (by omega)).2, Option.bind_some, hw]
    by_cases hc : i < wd (preB w) + m
    · have hw1 : w64 ((i : Int) + 1) = ((i + 1 : Nat) : Int) := by rw [w64_eq (by omega) (by omega)]; rfl
      rw [if_pos (by omega), sap_big (by rw [spB_size, e2]; omega), spB_succ, hw1, Option.bind_some]
      exact ref_l1 h1 h2 h m hm (n - 1) (i + 1) k (by omega) (by omega) (by omega)
    · have hie : i = wd (preB w) + m := by omega
      subst hie
      rw [if_neg (by omega), ref_text_eq h1 h2, Option.bind_some, Option.bind_some, sap_big (by omega), Option.bind_some, sap_big (by rw [spB_size, e1]; omega), Option.bind_some]
theorem ref_l2 {e : Int} {w : WT} (h1 : -9223372036854775808 ≤ e) (h2 : e ≤ 9223372036854775807) (h : okW w) (m : Nat) (hm : wd (preB w) + m ≤ 281474976710656) (h0 : m = 0) : ∀ (n i k : Nat), n = wd (preB w) + m - i → i ≤ wd (preB w) + m → n < k →
    ref14_Lines_l2 e w k (spB i) (i : Int) = some [textB e, preB w ++ w.2.2.1, spB (wd (preB w) + m) ++ ⟨#[94]⟩]
  | _, _, 0, _, _, h => by omega
  | n, i, k + 1, hn, hi, hk => by
    have hp := pre_size h
    have hnm := h.1
    have ht := h.2.2.1
    have e1 : (⟨#[94]⟩ : ByteArray).size = 1 := rfl
    have e2 : (⟨#[32]⟩ : ByteArray).size = 1 := rfl
    have hw : w64 (((wd (preB w) : Nat) : Int) + 0) = ((wd (preB w) + m : Nat) : Int) := by
      rw [show (0 : Int) = (m : Int) from by omega, w64_eq (by omega) (by omega)]; omega
    rw [ref14_Lines_l2, (pre_eq h).2, Option.bind_some, (width_eq (by omega)).2, Option.bind_some, hw]
    by_cases hc : i < wd (preB w) + m
    · have hw1 : w64 ((i : Int) + 1) = ((i + 1 : Nat) : Int) := by rw [w64_eq (by omega) (by omega)]; rfl
      rw [if_pos (by omega), sap_big (by rw [spB_size, e2]; omega), spB_succ, hw1, Option.bind_some]
      exact ref_l2 h1 h2 h m hm h0 (n - 1) (i + 1) k (by omega) (by omega) (by omega)
    · have hie : i = wd (preB w) + m := by omega
      subst hie
      rw [if_neg (by omega), ref_text_eq h1 h2, Option.bind_some, Option.bind_some, sap_big (by omega), Option.bind_some, sap_big (by rw [spB_size, e1]; omega), Option.bind_some]
theorem ref_l3 {e : Int} {w : WT} (h1 : -9223372036854775808 ≤ e) (h2 : e ≤ 9223372036854775807) (h : okW w) (m : Nat) (hm : wd (preB w) + m ≤ 281474976710656) (h0 : w.2.2.2 = (m : Int)) : ∀ (n i k : Nat), n = wd (preB w) + m - i → i ≤ wd (preB w) + m → n < k →
    ref14_Lines_l3 e w k (spB i) (i : Int) = some [textB e, preB w ++ w.2.2.1, spB (wd (preB w) + m) ++ ⟨#[94]⟩]
  | _, _, 0, _, _, h => by omega
  | n, i, k + 1, hn, hi, hk => by
    have hp := pre_size h
    have hnm := h.1
    have ht := h.2.2.1
    have e1 : (⟨#[94]⟩ : ByteArray).size = 1 := rfl
    have e2 : (⟨#[32]⟩ : ByteArray).size = 1 := rfl
    have hw : w64 (((wd (preB w) : Nat) : Int) + w.2.2.2) = ((wd (preB w) + m : Nat) : Int) := by
      rw [show (w.2.2.2 : Int) = (m : Int) from h0, w64_eq (by omega) (by omega)]; omega
    rw [ref14_Lines_l3, (pre_eq h).2, Option.bind_some, (width_eq (by omega)).2, Option.bind_some, hw]
    by_cases hc : i < wd (preB w) + m
    · have hw1 : w64 ((i : Int) + 1) = ((i + 1 : Nat) : Int) := by rw [w64_eq (by omega) (by omega)]; rfl
      rw [if_pos (by omega), sap_big (by rw [spB_size, e2]; omega), spB_succ, hw1, Option.bind_some]
      exact ref_l3 h1 h2 h m hm h0 (n - 1) (i + 1) k (by omega) (by omega) (by omega)
    · have hie : i = wd (preB w) + m := by omega
      subst hie
      rw [if_neg (by omega), ref_text_eq h1 h2, Option.bind_some, Option.bind_some, sap_big (by omega), Option.bind_some, sap_big (by rw [spB_size, e1]; omega), Option.bind_some]
theorem ref_lines_eq {e : Int} {w : WT} (h1 : -9223372036854775808 ≤ e) (h2 : e ≤ 9223372036854775807) (h : okW w) : ref14_Lines e w = some (linesB e w) := by
  unfold ref14_Lines linesB
  by_cases h0 : e = 0
  · rw [if_pos h0, if_pos h0]
  have ht := h.2.2.1
  have hc := car_le h
  have e0 : (⟨#[]⟩ : ByteArray) = spB 0 := rfl
  have z0 : (0 : Int) = ((0 : Nat) : Int) := rfl
  rw [if_neg h0, if_neg h0, (width_eq (by omega)).2, Option.bind_some, Option.bind_some, e0]
  by_cases hlt : ((wd w.2.2.1 : Nat) : Int) < w.2.2.2
  · have ha : atW w = wd w.2.2.1 := by unfold atW; omega
    rw [if_pos hlt, if_neg (by omega), ← ha]
    exact ref_l1 h1 h2 h (atW w) hc (wd (preB w) + atW w) 0 FUEL (by omega) (by omega) (fuel_gt' (by omega))
  · rw [if_neg hlt]
    by_cases hneg : w.2.2.2 < 0
    · rw [if_pos hneg]
      exact ref_l2 h1 h2 h (atW w) hc (by unfold atW; omega) (wd (preB w) + atW w) 0 FUEL (by omega) (by omega) (fuel_gt' (by omega))
    · rw [if_neg hneg]
      exact ref_l3 h1 h2 h (atW w) hc (by unfold atW; omega) (wd (preB w) + atW w) 0 FUEL (by omega) (by omega) (fuel_gt' (by omega))
theorem same_texts (l : List ByteArray) (hl : l.length ≤ 562949953421312) : ref11_SameTexts l l = some true := by
  unfold ref11_SameTexts
  rw [if_pos rfl]
  have : ∀ (n i k : Nat) (b : Bool), n = l.length - i → i ≤ l.length → n < k → ref11_SameTexts_l0 l l k b (i : Int) = some true := by
    intro n i k
    induction k generalizing n i with
    | zero => intro b _ _ h; omega
    | succ k ih =>
      intro b hn hi hk
      rw [ref11_SameTexts_l0]
      by_cases h : i < l.length
      · have hr : rd? l (i : Int) = some l[i] := by
          unfold rd?
          rw [if_pos (by omega), Int.toNat_natCast, List.getElem?_eq_getElem h]
        have hw1 : w64 ((i : Int) + 1) = ((i + 1 : Nat) : Int) := by rw [w64_eq (by omega) (by omega)]; rfl
        rw [if_pos (by omega), hr, Option.bind_some, Option.bind_some, if_pos rfl, hw1]
        exact ih (n - 1) (i + 1) b (by omega) (by omega) (by omega)
      · rw [if_neg (by omega)]
  exact this l.length 0 FUEL false rfl (Nat.zero_le _) (fuel_gt' (by omega))
end Go.FL
/-
  GP: the law ReportOutcomes.
-/
namespace Go.FL
open Go Go.Proofs

def law14_ReportOutcomes_l1 (x4 : (List ByteArray)) (K0 : Bool → (List ByteArray) → Option (Bool)) : Nat → Bool → (List ByteArray) → Int → Option (Bool)
  | 0, _, _, _ => none
  | k + 1, s7, s8, s9 => (if s9 < ((List.length s8 : Nat) : Int) then (Option.bind ((if s9 < ((List.length x4 : Nat) : Int) then ((rd? s8 s9).bind fun x11 => ((rd? x4 s9).bind fun x12 => (some (!(decide (x11 = x12)))))) else (some false)) : Option (Bool)) fun (z10 : Bool) => (if z10 = true then (some (false)) else ((rd? s8 s9).bind fun x13 => (law14_ReportOutcomes_l1 x4 K0 k s7 (List.set s8 (Int.toNat s9) (⟨#[63]⟩ : ByteArray)) (w64 (s9 + 1)))))) else (K0 s7 s8))
def law14_ReportOutcomes (a0 : OT) : Option (Bool) := ((ap? 8796093022208 [] a0.1).bind fun x1 => ((report_Outcome a0).bind fun x2 => ((law14_where a0.2.2.1).bind fun x3 => ((ref14_Outcome (x1, a0.2.1, x3, 0)).bind fun x4 => (jn (fun (z5 : Bool) (z6 : (List ByteArray)) => (law14_live.bind fun x14 => (Option.bind ((if x14 = true then (if ((List.length z6 : Nat) : Int) = ((List.length x4 : Nat) : Int) then ((ref11_SameTexts a0.1 x1).bind fun x16 => (some x16)) else (some false)) else (some false)) : Option (Bool)) fun (z14 : Bool) => (some (z14))))) fun K0 => (law14_ReportOutcomes_l1 x4 K0 FUEL false x2 0))))))
theorem law14_ReportOutcomes_ok {a0 : OT} {r : Bool} (h : law14_ReportOutcomes a0 = some r) :
    Fn Try.prog 11 [.ag [.sl (Ss a0.1), .i .i64 a0.2.1, .s a0.2.2.1.1, .i .i64 a0.2.2.1.2.1, .s a0.2.2.1.2.2.1, .i .i64 a0.2.2.1.2.2.2, .i .i64 a0.2.2.2]] (.d (.b r)) := by
  unfold law14_ReportOutcomes at h
  refine Fn.of (rs := [.tmp 2]) (nt := 59) Try.func11 rfl rfl rfl (by simp) rfl ?_
  refine .seq ?_
  refine .region ?_
  refine vk (vbx) ?_
  refine asd ?_
  refine rn ?_
  refine .gh (Gh.keep [1, 2] rfl) ?_
  refine .seq ?_
  refine .region ?_
  refine asn ?_
  refine rn ?_
  refine .gh (Gh.keep [1, 2, 3] rfl) ?_
  refine .seq ?_
  refine .region ?_
  refine mvn ?_
  refine vk (vfa gF_O_0) ?_
  refine vk (vldp ga_Ss) ?_
  obtain ⟨x1, hx1, h⟩ := bnd h
  refine apn' hx1 gB_Ss ?_ Ss_sz1 Ss_length ge_Ss
  refine aso ?_
  refine rn ?_
  refine .gh (Gh.keep [1, 2, 3] rfl) ?_
  refine .seq ?_
  refine .region ?_
  refine vk (vlda gA_O gS_O) ?_
  obtain ⟨x2, hx2, h⟩ := bnd h
  refine vk (vcl0 (report_Outcome_ok hx2) Try.call49) ?_
  refine aso ?_
  refine rn ?_
  refine .gh (Gh.keep [1, 2, 3, 4] rfl) ?_
  refine .seq ?_
  refine .gh (Gh.frz (p := .t 3) rfl (by (intro _ _ h; cases h <;> decide))) ?_
  refine .drawn 8 mixed (by kernel_rfl) ?_
  refine dv (vmvd) ?_
  refine dv (vfa gF_O_1) ?_
  refine dv (vldp ga_Errno) ?_
  refine dv (vfa gF_O_2) ?_
  refine dv (vlda gA_W gS_W) ?_
  obtain ⟨x3, hx3, h⟩ := bnd h
  refine dv (vcl0 (law14_where_ok hx3) Try.call29) ?_
  refine dv (vbd gP_P gI_P gZ_P) ?_
  obtain ⟨x4, hx4, h⟩ := bnd h
  refine dv (vcl0 (ref14_Outcome_ok hx4) Try.call50) ?_
  refine dz ?_
  refine asd ?_
  refine rn ?_
  refine .gh (Gh.keep [1, 2, 3, 4, 5] rfl) ?_
  refine .seq ?_
  refine .seq ?_
  refine .region ?_
  refine asd ?_
  refine rn ?_
  refine .gh (Gh.keep [1, 2, 3, 4, 5, 6] rfl) ?_
  obtain ⟨K0, hK0, h⟩ := jn_out h
  refine AW.mr (σ := Bool × (List ByteArray)) (fun p => K0 p.1 p.2 = some r) (fun p => [(1, .d (.ptr [.sl (Ss a0.1), .i .i64 a0.2.1, .s a0.2.2.1.1, .i .i64 a0.2.2.1.2.1, .s a0.2.2.1.2.2.1, .i .i64 a0.2.2.1.2.2.2, .i .i64 a0.2.2.2])), (2, .d (.b p.1)), (3, .d (.sl (Ss x1))), (4, .own 9 (Ss p.2)), (5, .d (.sl (Ss x4)))]) (fun p => []) ?_ ?_
  · skip
    refine .block ?_
    refine .loop (.gh (Gh.keep [1, 2, 3, 4, 5, 6] rfl) ?_)
    refine AL.ind (σ := Nat × Bool × (List ByteArray) × Int) (m := fun p => p.1) (e := fun p => [(1, .d (.ptr [.sl (Ss a0.1), .i .i64 a0.2.1, .s a0.2.2.1.1, .i .i64 a0.2.2.1.2.1, .s a0.2.2.1.2.2.1, .i .i64 a0.2.2.1.2.2.2, .i .i64 a0.2.2.2])), (2, .d (.b p.2.1)), (3, .d (.sl (Ss x1))), (4, .own 9 (Ss p.2.2.1)), (5, .d (.sl (Ss x4))), (6, .d (.i .i64 p.2.2.2))]) (h := fun p => []) (I := fun p => law14_ReportOutcomes_l1 x4 K0 p.1 p.2.1 p.2.2.1 p.2.2.2 = some r) ?_ (FUEL, false, x2, 0) h
    rintro ⟨k, s7, s8, s9⟩ h ih
    dsimp only at h ih ⊢
    rcases k with _ | k
    · rw [law14_ReportOutcomes_l1] at h; cases h
    rw [law14_ReportOutcomes_l1] at h
    refine .seq ?_
    refine .seq ?_
    refine .region ?_
    refine vk (vmvd) ?_
    refine mvo ?_
    refine vk (vlnrE (Ss_length _) gu_Ss) ?_
    refine vk (vbi) ?_
    refine rn ?_
    refine .gh (Gh.keep [1, 2, 3, 4, 5, 6, 24] rfl) ?_
    by_cases hc : s9 < ((List.length s8 : Nat) : Int)
    · replace h := ite_t hc h
      refine cnt (decide_eq_true hc) ?_
      refine .skip ?_
      show AW _ _ _ _ _ _
      refine .seq ?_
      refine .block ?_
      refine .seq ?_
      refine .seq ?_
      obtain ⟨z10, hz, h⟩ := bnd h
      refine AW.mr (σ := Unit) (fun _ => True) (fun _ => [(1, .d (.ptr [.sl (Ss a0.1), .i .i64 a0.2.1, .s a0.2.2.1.1, .i .i64 a0.2.2.1.2.1, .s a0.2.2.1.2.2.1, .i .i64 a0.2.2.1.2.2.2, .i .i64 a0.2.2.2])), (2, .d (.b s7)), (3, .d (.sl (Ss x1))), (4, .own 9 (Ss s8)), (5, .d (.sl (Ss x4))), (6, .d (.i .i64 s9)), (41, .d (.b z10))]) (fun _ => []) ?_ ?_
      · skip
        refine .drawn 15 mixed (by kernel_rfl) ?_
        refine dv (vmvd) ?_
        refine dv (vmvd) ?_
        refine dv (vlnE (Ss_length _) (Ss_sz _) gu_Ss) ?_
        refine dv (vbi) ?_
        by_cases hc : s9 < ((List.length x4 : Nat) : Int)
        · replace hz := ite_t hc hz
          have hb0 : (decide (s9 < ((List.length x4 : Nat) : Int))) = true := (decide_eq_true hc)
          refine dv (VOK.lit (vmvd) hb0) ?_
          refine dv vmvo ?_
          refine dv (vmvd) ?_
          obtain ⟨x11, hx11, hz⟩ := bnd hz
          obtain ⟨nx11, hnx11, hxx11⟩ := rd_some hx11
          refine dv (vixr (off := 0) (len := (Ss s8).length) nx11 hnx11 (by rw [Ss_length]; exact (List.getElem?_eq_some_iff.1 hxx11).1) gs_Ss (by decide)) ?_
          refine dv (vlde (i := 0 + nx11) (j := 0) (xs := Ss s8) (.s x11) ⟨_, by rw [Nat.zero_add]; exact Ss_at hxx11, rfl⟩ ga_string) ?_
          refine dv (vmvd) ?_
          refine dv (vmvd) ?_
          obtain ⟨x12, hx12, hz⟩ := bnd hz
          obtain ⟨nx12, hnx12, hxx12⟩ := rd_some hx12
          refine dv (vix nx12 hnx12 (Ss_at hxx12) rfl gs_Ss) ?_
          refine dv (vldp ga_string) ?_
          refine dv (vsq (.inr rfl)) ?_
          refine dv (vpkd) ?_
          refine dz ?_
          refine RL.gh (Gh.keep [1, 2, 3, 4, 5, 6, 41] rfl) ?_
          refine .nil ?_
          cases hz
          exact jr () trivial
        replace hz := ite_f hc hz
        have hb0 : (decide (s9 < ((List.length x4 : Nat) : Int))) = false := (decide_eq_false hc)
        refine dv (VOK.lit (vmvd) hb0) ?_
        refine dgf ?_
        refine dgf ?_
        refine dgf ?_
        refine dgf ?_
        refine dgf ?_
        refine dgf ?_
        refine dgf ?_
        refine dgf ?_
        refine dgf ?_
        refine dv (vpkd) ?_
        refine dz ?_
        refine RL.gh (Gh.keep [1, 2, 3, 4, 5, 6, 41] rfl) ?_
        refine .nil ?_
        cases hz
        exact jr () trivial
      rintro _ _
      by_cases hc : z10 = true
      · replace h := ite_t hc h
        refine cnt hc ?_
        refine .seq ?_
        refine .region ?_
        refine asd ?_
        refine rn ?_
        refine .gh (Gh.keep [1, 2, 3, 4, 5, 6] rfl) ?_
        refine .ret ?_
        cases h
        exact ⟨rfl, rfl⟩
      replace h := ite_f hc h
      refine cnf (bf hc) ?_
      refine .skip ?_
      show AW _ _ _ _ _ _
      refine .region ?_
      refine mvo ?_
      refine vk (vmvd) ?_
      obtain ⟨x13, hx13, h⟩ := bnd h
      obtain ⟨nx13, hnx13, hxx13⟩ := rd_some hx13
      refine ixr (off := 0) (len := (Ss s8).length) nx13 hnx13 (by rw [Ss_length]; exact (List.getElem?_eq_some_iff.1 hxx13).1) ?_ gs_Ss (by decide)
      refine ste' (F := Ss) (D := fun x => .s x) Ss_set (us := s8) (n := nx13) (m := Int.toNat s9) (x := (⟨#[63]⟩ : ByteArray)) (by rw [hnx13]; rfl) ⟨_, by rw [Nat.zero_add]; exact Ss_at hxx13, rfl⟩ ?_ gz_string
      refine RL.gh (Gh.keep [1, 2, 3, 4, 5, 6, 41, 43] rfl) ?_
      refine .nil ?_
      show AW _ _ _ _ _ _
      refine .gh (Gh.keep [1, 2, 3, 4, 5, 6] rfl) ?_
      refine .region ?_
      refine vk (vmvd) ?_
      refine vk (vbi) ?_
      refine asd ?_
      refine .nil ?_
      refine AL.gh (Gh.keep [1, 2, 3, 4, 5, 6] rfl) ?_
      exact ih (k, s7, (List.set s8 (Int.toNat s9) (⟨#[63]⟩ : ByteArray)), (w64 (s9 + 1))) h (Nat.lt_succ_self _)
    replace h := ite_f hc h
    refine cnf (decide_eq_false hc) ?_
    refine .gh (Gh.keep [1, 2, 3, 4, 5] rfl) ?_
    refine .exit ?_
    exact jr (s7, s8) h
  rintro ⟨z5, z6⟩ h
  try dsimp only at h ⊢
  subst hK0
  show AW _ _ _ _ _ _
  refine .seq ?_
  obtain ⟨x14, hx14, h⟩ := bnd h
  obtain ⟨z14, hz, h⟩ := bnd h
  refine AW.mr (σ := Unit) (fun _ => True) (fun _ => [(2, .d (.b z14))]) (fun _ => []) ?_ ?_
  · skip
    refine .region ?_
    refine vk (vcl0 (law14_live_ok hx14) Try.call25) ?_
    by_cases hc : x14 = true
    · replace hz := ite_t hc hz
      have hb0 : x14 = true := hc
      refine vk (VOK.lit (vmvd) hb0) ?_
      refine mvo ?_
      refine vk (vlnrE (Ss_length _) gu_Ss) ?_
      refine vk (vmvd) ?_
      refine vk (vlnE (Ss_length _) (Ss_sz _) gu_Ss) ?_
      refine vk (vbi) ?_
      refine vk (vpkd) ?_
      by_cases hc : ((List.length z6 : Nat) : Int) = ((List.length x4 : Nat) : Int)
      · replace hz := ite_t hc hz
        have hb1 : (decide (((List.length z6 : Nat) : Int) = ((List.length x4 : Nat) : Int))) = true := (decide_eq_true hc)
        refine vk (VOK.lit (vmvd) hb1) ?_
        refine vk (vfa gF_O_0) ?_
        refine vk (vldp ga_Ss) ?_
        refine vk (vmvd) ?_
        obtain ⟨x16, hx16, hz⟩ := bnd hz
        refine vk (vcl0 (ref11_SameTexts_ok hx16) Try.call26) ?_
        refine vk (vpkd) ?_
        refine asd ?_
        refine RL.gh (Gh.keep [2] rfl) ?_
        refine .nil ?_
        cases hz
        exact jr () trivial
      replace hz := ite_f hc hz
      have hb1 : (decide (((List.length z6 : Nat) : Int) = ((List.length x4 : Nat) : Int))) = false := (decide_eq_false hc)
      refine vk (VOK.lit (vmvd) hb1) ?_
      refine gf ?_
      refine gf ?_
      refine gf ?_
      refine gf ?_
      refine vk (vpkd) ?_
      refine asd ?_
      refine RL.gh (Gh.keep [2] rfl) ?_
      refine .nil ?_
      cases hz
      exact jr () trivial
    replace hz := ite_f hc hz
    have hb0 : x14 = false := (bf hc)
    refine vk (VOK.lit (vmvd) hb0) ?_
    refine gf ?_
    refine gf ?_
    refine gf ?_
    refine gf ?_
    refine gf ?_
    refine vk (vpkd) ?_
    refine vk (vmvd) ?_
    refine gf ?_
    refine gf ?_
    refine gf ?_
    refine gf ?_
    refine vk (vpkd) ?_
    refine asd ?_
    refine RL.gh (Gh.keep [2] rfl) ?_
    refine .nil ?_
    cases hz
    exact jr () trivial
  rintro _ _
  refine .ret ?_
  cases h
  exact ⟨rfl, rfl⟩
end Go.FL
/-
  Plain laws of reports, 3: ReportOutcomes.
-/
namespace Go.FL
open Go Go.Proofs

theorem jn_def {α β : Type} (k : α) (b : α → β) : jn k b = b k := rfl
theorem rd_mem {α : Type} {xs : List α} {i : Nat} (h : i < xs.length) : rd? xs (i : Int) = some xs[i] := by
  unfold rd?
  rw [if_pos (by omega), Int.toNat_natCast, List.getElem?_eq_getElem h]
theorem ap_len {α : Type} {m : Nat} {xs ys : List α} (h : xs.length + ys.length ≤ m) : ap? m xs ys = some (xs ++ ys) := if_pos h
theorem concat2 {a b : List ByteArray} (h : a.length + b.length ≤ 8796093022208) : slices_Concat_string_string [a, b] = some (a ++ b) := by
  unfold slices_Concat_string_string
  have hF : FUEL = 999999999999997 + 1 + 1 + 1 := rfl
  have w0 : w64 ((0 : Int) + ((a.length : Nat) : Int)) = ((a.length : Nat) : Int) := by rw [w64_eq (by omega) (by omega)]; omega
  have w1 : w64 (((a.length : Nat) : Int) + ((b.length : Nat) : Int)) = ((a.length + b.length : Nat) : Int) := by rw [w64_eq (by omega) (by omega)]; omega
  have i1 : w64 ((0 : Int) + 1) = 1 := rfl
  have i2 : w64 ((1 : Int) + 1) = 2 := rfl
  have n0 : ∀ n : Nat, grd? (¬ ((n : Int) < 0)) = some () := fun n => if_pos (by omega)
  have c0 : (0 : Int) < ((([a, b] : List (List ByteArray)).length : Nat) : Int) := (by decide : (0 : Int) < ((2 : Nat) : Int))
  have c1 : (1 : Int) < ((([a, b] : List (List ByteArray)).length : Nat) : Int) := (by decide : (1 : Int) < ((2 : Nat) : Int))
  have c2 : ¬ ((2 : Int) < ((([a, b] : List (List ByteArray)).length : Nat) : Int)) := (by decide : ¬ ((2 : Int) < ((2 : Nat) : Int)))
  have r0 : rd? [a, b] 0 = some a := rfl
  have r1 : rd? [a, b] 1 = some b := rfl
  have l1 : ∀ K0 : Int → Option (List ByteArray), slices_Concat_string_string_l1 [a, b] K0 FUEL 0 0 = K0 ((a.length + b.length : Nat) : Int) := by
    intro K0
    rw [hF, slices_Concat_string_string_l1, if_pos c0, jn_def, r0, Option.bind_some, w0, n0, Option.bind_some, i1]
    show slices_Concat_string_string_l1 [a, b] K0 (999999999999997 + 1 + 1) ((a.length : Nat) : Int) 1 = _
    rw [slices_Concat_string_string_l1, if_pos c1, jn_def, r1, Option.bind_some, w1, n0, Option.bind_some, i2]
    show slices_Concat_string_string_l1 [a, b] K0 (999999999999997 + 1) ((a.length + b.length : Nat) : Int) 2 = _
    rw [slices_Concat_string_string_l1, if_neg c2]
  have l4 : ∀ K3 : List ByteArray → Option (List ByteArray), slices_Concat_string_string_l4 [a, b] K3 FUEL [] 0 = K3 (a ++ b) := by
    intro K3
    rw [hF, slices_Concat_string_string_l4, if_pos c0, r0, Option.bind_some, ap_len (by rw [List.length_nil]; omega), List.nil_append, Option.bind_some, i1, slices_Concat_string_string_l4, if_pos c1, r1, Option.bind_some, ap_len h, Option.bind_some, i2, slices_Concat_string_string_l4, if_neg c2]
  rw [jn_def, l1]
  have hg : grd? (0 ≤ ((a.length + b.length : Nat) : Int) ∧ ((a.length + b.length : Nat) : Int) ≤ GROOM_Ss) = some () := if_pos ⟨by omega, by unfold GROOM_Ss; omega⟩
  rw [hg, Option.bind_some, jn_def, l4]
def okO (o : OT) : Prop := o.1.length ≤ 8796093022000 ∧ (-9223372036854775808 ≤ o.2.1 ∧ o.2.1 ≤ 9223372036854775807) ∧ okW o.2.2.1
theorem lines_le (e : Int) (w : WT) : (linesB e w).length ≤ 3 := by unfold linesB; split <;> simp
theorem out_eq {o : OT} (h : okO o) : report_Outcome o = some (o.1 ++ linesB o.2.1 o.2.2.1) := by
  have hl := lines_le o.2.1 o.2.2.1
  have h1 := h.1
  unfold report_Outcome
  rw [lines_eq h.2.1.1 h.2.1.2 h.2.2, Option.bind_some, concat2 (by omega), Option.bind_some]
theorem ref_out_eq {o : OT} (h : okO o) (u : Int) : ref14_Outcome (o.1, o.2.1, o.2.2.1, u) = some (o.1 ++ linesB o.2.1 o.2.2.1) := by
  have hl := lines_le o.2.1 o.2.2.1
  have h1 := h.1
  unfold ref14_Outcome
  show Option.bind (ap? 8796093022208 [] o.1) _ = _
  rw [ap_len (by rw [List.length_nil]; omega), List.nil_append, Option.bind_some, ref_lines_eq h.2.1.1 h.2.1.2 h.2.2, Option.bind_some, ap_len (by omega), Option.bind_some]
theorem out_loop {m : List ByteArray} (K : Bool → List ByteArray → Option Bool) {v : Option Bool} (hK : ∀ s l, l.length = m.length → K s l = v) (hl : m.length ≤ 562949953421312) : ∀ (n i k : Nat) (s : Bool) (l : List ByteArray), n = m.length - i → i ≤ m.length → n < k → l.length = m.length → (∀ j, i ≤ j → l[j]? = m[j]?) →
    law14_ReportOutcomes_l1 m K k s l (i : Int) = v
  | _, _, 0, _, _, _, _, h, _, _ => by omega
  | n, i, k + 1, s, l, hn, hi, hk, hlen, hj => by
    rw [law14_ReportOutcomes_l1]
    by_cases h : i < m.length
    · have hw1 : w64 ((i : Int) + 1) = ((i + 1 : Nat) : Int) := by rw [w64_eq (by omega) (by omega)]; rfl
      have he : l[i]'(by omega) = m[i] := by
        have := hj i (Nat.le_refl _)
        rw [List.getElem?_eq_getElem (by omega), List.getElem?_eq_getElem h] at this
        exact Option.some.inj this
      rw [if_pos (by omega), if_pos (by omega), rd_mem (by omega : i < l.length), Option.bind_some, rd_mem h, Option.bind_some, he, decide_eq_true rfl, Option.bind_some, Bool.not_true, if_neg (by decide), Option.bind_some, hw1, Int.toNat_natCast]
      refine out_loop K hK hl (n - 1) (i + 1) k s _ (by omega) (by omega) (by omega) (by rw [List.length_set]; exact hlen) fun j hj1 => ?_
      rw [List.getElem?_set_ne (by omega)]
      exact hj j (by omega)
    · rw [if_neg (by omega)]
      exact hK s l hlen
theorem lawOutcomes {o : OT} (h : okO o) : law14_ReportOutcomes o = some true := by
  have hl := lines_le o.2.1 o.2.2.1
  have h1 := h.1
  have hw : law14_where o.2.2.1 = some o.2.2.1 := rfl
  unfold law14_ReportOutcomes
  rw [ap_len (by rw [List.length_nil]; omega), List.nil_append, Option.bind_some, out_eq h, Option.bind_some, hw, Option.bind_some, ref_out_eq h, Option.bind_some, jn_def]
  refine out_loop (m := o.1 ++ linesB o.2.1 o.2.2.1) _ (v := some true) (fun s l hll => ?_) (by rw [List.length_append]; omega) (o.1 ++ linesB o.2.1 o.2.2.1).length 0 FUEL false _ rfl (Nat.zero_le _) (fuel_gt' (by rw [List.length_append]; omega)) rfl (fun _ _ => rfl)
  show law14_live.bind _ = _
  rw [live14, Option.bind_some, if_pos rfl, if_pos (by rw [hll]), same_texts _ (by omega), Option.bind_some]
  rfl
end Go.FL
/-
  The statement ReportOutcomesSaid: for every input the law gives true, and each argument reads as it read before.
-/
namespace Go.Proofs.Ytcoofpnbnifbbaa.reportOutcomes
open Go.ChangeShapes Go.WideShapes Go.ChangeAt Go.RowKit Go.FL

theorem own : ownKnob Try.prog.godebug = none := by kernel_rfl
theorem laid : laidOutB Try.prog = true := by kernel_rfl
theorem params : ∀ t ∈ Try.f11.params.toList, Try.prog.readableRec t = true ∧ t < Try.prog.types.size := by
  intro t ht
  simp only [Try.params11, List.mem_cons, List.not_mem_nil, or_false] at ht
  rcases ht with rfl <;> exact ⟨by kernel_rfl, of_decide_eq_true (by kernel_rfl)⟩
set_option maxRecDepth 100000 in
theorem lifted (os : Os) (started : os.Started) (H : Type) (enc : TypeId × Value → H) :
    ReturnsInHanded {} Try.checked os 11 .any (Rows.reportOutcomesSpec.pre6 enc Try.prog Try.f11 Rows.reportOutcomesRow.domain false) (Rows.reportOutcomesSpec.post enc Try.prog Try.f11 false true false false) := by
  refine returnsInHanded_of_change_sized (C := Try.checked) own started (by kernel_rfl) Try.func11
    (ChangeSpec.witness6 (enc := enc) (C := Try.checked) false ⟨#[], #[.agg #[.slice none 0 0, .int .i64 0, .string ByteArray.empty, .int .i64 0, .string ByteArray.empty, .int .i64 0, .int .i64 0]], []⟩ 8 (by kernel_rfl) (by kernel_rfl) (by kernel_rfl) (by kernel_rfl)) ?_
  intro W base args ds gs before hval0 hW hcnd hsz _
  have hval : ∀ (j : Nat) t v, Try.f11.params[j]? = some t → args[j]? = some v → Value.okWide Try.prog W .any base t v := hval0
  have hW' := hW
  obtain ⟨p, q, hA0, hV, rfl, hfz, hnd⟩ := hW
  have hA : DataW.TrodAll enc Try.prog W 0 (fun _ => true) true Try.f11.params.toList args.toList ds p := hA0
  rw [Try.params11] at hA hval
  obtain ⟨v0, vs0, d0, ds0, p0, q0, hargs, rfl, rfl, h0, r0⟩ := trodAll_cons hA
  obtain ⟨rfl, rfl, rfl⟩ := trodAll_nil r0
  obtain rfl : args = #[v0] := by cases args; simp_all
  obtain ⟨rfl, rfl⟩ := trodVars_none hV
  rw [Try.params11] at hsz
  have w0 : ∀ m ∈ DataW.weights Try.prog 75 d0, m ≤ reachBytes := fun m hm => by simpa using List.all_eq_true.1 hsz m (DataW.weights_mem_each (j := 0) rfl rfl m hm)
  obtain ⟨a0, o0, e0⟩ := arg_agg (v := v0) op_outcome (let ⟨cs, h, _⟩ := okWide_struct (P := Try.prog) Try.underlying75 (hval 0 75 v0 rfl rfl); ⟨cs, h⟩) h0 w0
  refine (law_calls (law14_ReportOutcomes_ok (lawOutcomes o0)) (.cons e0 .nil)).mono fun e W' ⟨he, hb⟩ => ?_
  subst he
  exact ⟨_, rfl, post_law hW' rfl (fun _ => rfl) rfl Try.underlying4 laid params hb⟩

theorem over : Rows.reportOutcomesRow.holds Try.pinned (OpenSpec.ofChange Rows.reportOutcomesSpec) :=
  OpenClaim.holds_of_wide 11 Try.f11 rfl rfl rfl rfl rfl rfl rfl ⟨rfl, rfl, rfl, rfl, rfl⟩ rfl rfl rfl rfl rfl (by kernel_rfl) Try.func11 (by kernel_rfl)
    (of_decide_eq_true (by kernel_rfl)) (by unfold Func.isWrapper; first | (rw [if_pos (by decide +kernel)]; kernel_rfl) | (rw [if_neg (by decide +kernel)]; exact ⟨rfl, rfl⟩))
    (fun os started H enc _ => lifted os started H enc)

theorem proved : Rows.ReportOutcomesSaid :=
  over
end Go.Proofs.Ytcoofpnbnifbbaa.reportOutcomes
