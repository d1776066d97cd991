/-
  The law: its function printed as a pure function, its contract, the plain law, the statement
-/
import Derived.Test.YtijibkhkoopgpaaRhD
import Derived.Test.YtijibkhkoopgpaaRows
set_option linter.unusedVariables false
/-
  GP: the law RatMakes.
-/
namespace Go.FL
open Go Go.Proofs

end Go.FL
/-
  GP: the law RatReckons.
-/
namespace Go.FL
open Go Go.Proofs

end Go.FL
/-
  GP: the law RatOrders.
-/
namespace Go.FL
open Go Go.Proofs

end Go.FL
/-
  GP: the law RatRounds.
-/
namespace Go.FL
open Go Go.Proofs

end Go.FL
/-
  Plain laws, rat 7: RatMakes, RatReckons, RatOrders, RatRounds.
-/
namespace Go.FL
open Go Go.Proofs

theorem ref2Same_eq {a c : RT} (h1 : a.2.1.length ≤ 35184372087808) (h2 : a.2.2.length ≤ 35184372087808) : ref2Same a c = some (decide (a = c)) := if_pos (by rw [decide_eq_true h1, decide_eq_true h2]; rfl)
theorem ofQ_len {p : Rat} (h : fits p) : (ofQ p).2.1.length ≤ 1048576 ∧ (ofQ p).2.2.length ≤ 1048576 := ⟨Nat.le_trans h.1 (by decide), Nat.le_trans h.2 (by decide)⟩
/-- An answer whose number is not too long. -/
def okA (x : RT × Int) : Prop := x.1.2.1.length ≤ 1048576 ∧ x.1.2.2.length ≤ 1048576
theorem okA_bad (e : Int) : okA (bad e) := ⟨Nat.zero_le _, Nat.zero_le _⟩
theorem okA_of {p : Rat} (h : fits p) (e : Int) : okA (ofQ p, e) := ofQ_len h
theorem okA_res (p : Rat) : okA (resR p) := by
  by_cases h : fits p
  · rw [resR_fits h]; exact okA_of h 0
  · rw [resR_not h]; exact okA_bad 8
theorem same_refl {x : RT × Int} (h : okA x) : law02_same x.1 x.2 x.1 x.2 = some true := by rw [same_eq (Nat.le_trans h.1 (by decide)) (Nat.le_trans h.2 (by decide))]; simp
theorem ref2Same_self {a : RT} (ha : okRB a = true) : ref2Same a a = some true := by
  obtain ⟨_, _, h1, h2⟩ := okRB_iff.1 ha
  rw [ref2Same_eq h1 h2]; simp
end Go.FL
/-
  GP: the law RatBack.
-/
namespace Go.FL
open Go Go.Proofs

end Go.FL
/-
  GP: the law RatResidues.
-/
namespace Go.FL
open Go Go.Proofs

end Go.FL
/-
  Plain laws, rat 8: RatBack, RatResidues.
-/
namespace Go.FL
open Go Go.Proofs

end Go.FL
/-
  GP: the law RatCompares.
-/
namespace Go.FL
open Go Go.Proofs

end Go.FL
/-
  Plain laws, rat 9: RatCompares.
-/
namespace Go.FL
open Go Go.Proofs

def absR (p : Rat) : Rat := if p < 0 then -p else p
def maxA (p q : Rat) : Rat := if absR p < absR q then absR q else absR p
def within (c p q : Rat) : Prop := absR (p - q) ≤ c * maxA p q
instance (c p q : Rat) : Decidable (within c p q) := inferInstanceAs (Decidable (_ ≤ _))
end Go.FL
/-
  Plain laws, rat 10: RatCompares, the reference's side and the law.
-/
namespace Go.FL
open Go Go.Proofs

theorem dlen_zero {n : Nat} : ((List.length (digs n) : Nat) : Int) = 0 ↔ n = 0 := by
  have := digs_pos_iff (n := n)
  omega
end Go.FL
/-
  GP: the law RatPowers.
-/
namespace Go.FL
open Go Go.Proofs

end Go.FL
/-
  Plain laws, rat 11: powers, RatPowers.
-/
namespace Go.FL
open Go Go.Proofs

theorem equal_digs {m n : Nat} (hm : (digs m).length ≤ 1048576) (hn : (digs n).length ≤ 1048576) : sEqualL (digs m) (digs n) = some (decide (m = n)) := by
  rw [equalL_eq (okL_digs hm) (okL_digs (by omega))]
  congr 1
  exact decide_eq_decide.2 ⟨digs_inj, fun h => by rw [h]⟩
end Go.FL
/-
  GP: the law TopField.
-/
namespace Go.FL
open Go Go.Proofs

end Go.FL
/-
  Plain laws, rat 12: printing a number, TopField.
-/
namespace Go.FL
open Go Go.Proofs

theorem nPrint_eq {n : Nat} (h : (digs n).length ≤ 1048576) : nPrint (digs n) = some (bstr (decT n)) := by
  unfold nPrint; rw [if_pos (okL_digs h), val_digs]
/-- The text of a number. -/
def txtQ (p : Rat) : List Nat := (if p.num < 0 then [194, 175] else []) ++ (decT p.num.natAbs ++ (if p.den = 1 then [] else 114 :: decT p.den))
theorem sap_eq {a b : List Nat} (h : a.length + b.length ≤ 100000) : sap? (bstr a) (bstr b) = some (bstr (a ++ b)) := by
  unfold sap?
  rw [if_pos, bstr_append]
  have h1 : ∀ l : List Nat, (bstr l).size = l.length := fun l => by simp [bstr, ByteArray.size]
  rw [h1, h1]; exact Nat.le_trans h (by decide)
theorem small_lt {n : Nat} (h : small n) : n < 4294967296 ^ 32 := by
  have := val_lt (digs_ok n)
  rw [val_digs] at this
  exact Nat.lt_of_lt_of_le this (Nat.pow_le_pow_right (by decide) h)
set_option exponentiation.threshold 2000 in
theorem small_dec {n : Nat} (h : small n) : (decT n).length ≤ 310 := decT_len (k := 309) (Nat.lt_trans (small_lt h) (by decide))
theorem print_q {p : Rat} (hp : fits p) : rat_Print (ofQ p) = some (bstr (txtQ p)) := by
  unfold rat_Print
  have l1 := small_dec hp.1
  have l2 := small_dec hp.2
  have e1 : nPrint (ofQ p).2.1 = some (bstr (decT p.num.natAbs)) := nPrint_eq (Nat.le_trans hp.1 (by decide))
  have e2 : nPrint (ofQ p).2.2 = some (bstr (decT p.den)) := nPrint_eq (Nat.le_trans hp.2 (by decide))
  have e3 : sEqualL (ofQ p).2.2 [1] = some (decide (p.den = 1)) := by rw [← one_digs]; exact equal_digs (Nat.le_trans hp.2 (by decide)) (by rw [one_digs]; decide)
  have s1 : sap? (⟨#[194, 175]⟩ : ByteArray) (bstr (decT p.num.natAbs)) = some (bstr ([194, 175] ++ decT p.num.natAbs)) := sap_eq (a := [194, 175]) (by simp; omega)
  have s2 : sap? (⟨#[114]⟩ : ByteArray) (bstr (decT p.den)) = some (bstr ([114] ++ decT p.den)) := sap_eq (a := [114]) (by simp; omega)
  rw [ratRight_eq (ofQ_okRB hp), ofQ_right hp, Option.bind_some, if_pos rfl, e1, Option.bind_some, ratOne_eq]
  show (if decide (p.num < 0) = true then _ else _) = _
  unfold txtQ
  by_cases hs : p.num < 0
  · rw [if_pos (decide_eq_true hs), s1, Option.bind_some, Option.bind_some, e3, Option.bind_some, if_pos hs]
    by_cases hd : p.den = 1
    · rw [if_pos (decide_eq_true hd), if_pos hd, List.append_nil]
    · rw [if_neg (by simpa using hd), e2, Option.bind_some, s2, Option.bind_some, sap_eq (by simp; omega), Option.bind_some, if_neg hd, List.append_assoc]; rfl
  · rw [if_neg (by simpa using hs), Option.bind_some, e3, Option.bind_some, if_neg hs, List.nil_append]
    by_cases hd : p.den = 1
    · rw [if_pos (decide_eq_true hd), if_pos hd, List.append_nil]
    · rw [if_neg (by simpa using hd), e2, Option.bind_some, s2, Option.bind_some, sap_eq (by simp; omega), Option.bind_some, if_neg hd]; rfl
theorem print_b {a : RT} (ha : okRB a = true) (h : rightR a = false) : rat_Print a = some ⟨#[]⟩ := by
  unfold rat_Print; rw [ratRight_eq ha, h]; rfl
end Go.FL
/-
  GP: the law RatPascal.
-/
namespace Go.FL
open Go Go.Proofs

end Go.FL
/-
  Plain laws, rat 13: RatPascal.
-/
namespace Go.FL
open Go Go.Proofs

/-- The number of ways to choose. -/
def ch : Nat → Nat → Nat
  | _, 0 => 1
  | 0, _ + 1 => 0
  | n + 1, k + 1 => ch n k + ch n (k + 1)
theorem prod2 {a b : Nat} (ha : (digs a).length ≤ 40000) (hb : (digs b).length ≤ 40000) : nProduct [digs a, digs b] = some (digs (a * b)) := by
  rw [nProduct_eq (by simp [okL_digs ha, okL_digs hb]) (by simp)]
  simp [prodF, val_digs]
theorem few {n : Nat} (h : n < 4294967296) (k : Nat) : (digs n).length ≤ k + 1 := Nat.le_trans (few_len h) (by omega)
theorem jn_eq {α β : Type} (k : α) (b : α → β) : jn k b = b k := rfl
end Go.FL
/-
  GP: the law RatTexts.
-/
namespace Go.FL
open Go Go.Proofs

def law02_RatTexts (a0 : RT) (a1 : ByteArray) : Option (Bool) := ((rat_Parse a1).bind fun x1 => ((ref02_Parse a1).bind fun x2 => ((rat_Print a0).bind fun x3 => (law02_live.bind fun x4 => (Option.bind ((if x4 = true then ((law02_same x1.1 x1.2 x2.1 x2.2).bind fun x6 => (if x6 = true then ((ref02_Print a0).bind fun x7 => (some (!(decide (x3 = x7))))) else (some true))) else (some true)) : Option (Bool)) fun (z4 : Bool) => (if z4 = true then (some (false)) else ((ratRight a0).bind fun x8 => (if x8 = true then ((rat_Parse x3).bind fun x9 => (Option.bind ((if x9.2 = 0 then ((ref2Same x9.1 a0).bind fun x11 => (some x11)) else (some false)) : Option (Bool)) fun (z10 : Bool) => (some (z10)))) else (some ((decide (x3 = (⟨#[]⟩ : ByteArray)))))))))))))
theorem law02_RatTexts_ok {a0 : RT} {a1 : ByteArray} {r : Bool} (h : law02_RatTexts a0 a1 = some r) :
    Fn Try.prog 4 [.ag [.b a0.1, .sl (L a0.2.1), .sl (L a0.2.2)], .s a1] (.d (.b r)) := by
  unfold law02_RatTexts at h
  refine Fn.of (rs := [.tmp 4]) (nt := 57) Try.func4 rfl rfl rfl (by simp) rfl ?_
  refine .seq ?_
  refine .region ?_
  refine vk (vbx) ?_
  refine asd ?_
  refine rn ?_
  refine .gh (Gh.keep [1, 2, 4] rfl) ?_
  refine .seq ?_
  refine .region ?_
  refine vk (vmvd) ?_
  obtain ⟨x1, hx1, h⟩ := bnd h
  refine vk (VOK.tupd (vs := [.ag [.b x1.1.1, .sl (L x1.1.2.1), .sl (L x1.1.2.2)], .i .i64 x1.2]) (vcl0 (rat_Parse_ok hx1) Try.call21)) ?_
  refine vk (vmvd) ?_
  refine vk (vex) ?_
  refine vk (vex) ?_
  refine vk (van (zero_of gI_R) gZ_R) ?_
  refine stn ?_ gS_R (by decide)
  refine asd ?_
  refine rn ?_
  refine .gh (Gh.keep [1, 2, 4, 5, 6] rfl) ?_
  refine .seq ?_
  refine .region ?_
  refine vk (vmvd) ?_
  obtain ⟨x2, hx2, h⟩ := bnd h
  refine vk (VOK.tupd (vs := [.ag [.b x2.1.1, .sl (L x2.1.2.1), .sl (L x2.1.2.2)], .i .i64 x2.2]) (vcl0 (ref02_Parse_ok hx2) Try.call22)) ?_
  refine vk (vmvd) ?_
  refine vk (vex) ?_
  refine vk (vex) ?_
  refine vk (van (zero_of gI_R) gZ_R) ?_
  refine stn ?_ gS_R (by decide)
  refine asd ?_
  refine rn ?_
  refine .gh (Gh.keep [2, 4, 5, 6, 7, 8] rfl) ?_
  refine .seq ?_
  refine .region ?_
  refine vk (vlda gA_R gS_R) ?_
  obtain ⟨x3, hx3, h⟩ := bnd h
  refine vk (vcl0 (rat_Print_ok hx3) Try.call23) ?_
  refine asd ?_
  refine rn ?_
  refine .gh (Gh.keep [2, 4, 5, 6, 7, 8, 9] rfl) ?_
  refine .seq ?_
  refine .seq ?_
  obtain ⟨x4, hx4, h⟩ := bnd h
  obtain ⟨z4, hz, h⟩ := bnd h
  refine AW.mr (σ := Unit) (fun _ => True) (fun _ => [(2, .d (.ptr [.b a0.1, .sl (L a0.2.1), .sl (L a0.2.2)])), (4, .d (.b false)), (9, .d (.s x3)), (39, .d (.b z4))]) (fun _ => []) ?_ ?_
  · skip
    refine .region ?_
    refine vk (vcl0 (law02_live_ok hx4) Try.call15) ?_
    refine vk (vnt) ?_
    by_cases hc : x4 = true
    · replace hz := ite_t hc hz
      have hb0 : (!x4) = false := (ntf hc)
      refine vk (VOK.lit (vmvd) hb0) ?_
      refine vk (vldn gA_R gS_R) ?_
      refine vk (vmvd) ?_
      refine vk (vldn gA_R gS_R) ?_
      refine vk (vmvd) ?_
      obtain ⟨x6, hx6, hz⟩ := bnd hz
      refine vk (vcl0 (law02_same_ok hx6) Try.call18) ?_
      refine vk (vnt) ?_
      refine vk (vpkd) ?_
      by_cases hc : x6 = true
      · replace hz := ite_t hc hz
        have hb1 : (!x6) = false := (ntf hc)
        refine vk (VOK.lit (vmvd) hb1) ?_
        refine vk (vmvd) ?_
        refine vk (vlda gA_R gS_R) ?_
        obtain ⟨x7, hx7, hz⟩ := bnd hz
        refine vk (vcl0 (ref02_Print_ok hx7) Try.call24) ?_
        refine vk (vsq (.inr rfl)) ?_
        refine vk (vpkd) ?_
        refine RL.gh (Gh.keep [2, 4, 9, 39] rfl) ?_
        refine .nil ?_
        cases hz
        exact jr () trivial
      replace hz := ite_f hc hz
      have hb1 : (!x6) = true := (ntt (bf hc))
      refine vk (VOK.lit (vmvd) hb1) ?_
      refine gf ?_
      refine gf ?_
      refine gf ?_
      refine gf ?_
      refine vk (vpkd) ?_
      refine RL.gh (Gh.keep [2, 4, 9, 39] rfl) ?_
      refine .nil ?_
      cases hz
      exact jr () trivial
    replace hz := ite_f hc hz
    have hb0 : (!x4) = true := (ntt (bf hc))
    refine vk (VOK.lit (vmvd) hb0) ?_
    refine gf ?_
    refine gf ?_
    refine gf ?_
    refine gf ?_
    refine gf ?_
    refine gf ?_
    refine vk (vpkd) ?_
    refine vk (vmvd) ?_
    refine gf ?_
    refine gf ?_
    refine gf ?_
    refine gf ?_
    refine vk (vpkd) ?_
    refine RL.gh (Gh.keep [2, 4, 9, 39] rfl) ?_
    refine .nil ?_
    cases hz
    exact jr () trivial
  rintro _ _
  by_cases hc : z4 = true
  · replace h := ite_t hc h
    refine cnt hc ?_
    refine .seq ?_
    refine .region ?_
    refine asd ?_
    refine rn ?_
    refine .gh (Gh.keep [2, 4, 9] rfl) ?_
    refine .ret ?_
    cases h
    exact ⟨rfl, rfl⟩
  replace h := ite_f hc h
  refine cnf (bf hc) ?_
  refine .skip ?_
  show AW _ _ _ _ _ _
  refine .seq ?_
  refine .seq ?_
  refine .region ?_
  refine vk (vlda gA_R gS_R) ?_
  obtain ⟨x8, hx8, h⟩ := bnd h
  refine vk (vcl0 (ratRight_ok hx8) Try.call19) ?_
  refine vk (vnt) ?_
  refine rn ?_
  refine .gh (Gh.keep [2, 4, 9, 42] rfl) ?_
  by_cases hc : x8 = true
  · replace h := ite_t hc h
    refine cnf (ntf hc) ?_
    refine .skip ?_
    show AW _ _ _ _ _ _
    refine .seq ?_
    refine .region ?_
    refine vk (vmvd) ?_
    obtain ⟨x9, hx9, h⟩ := bnd h
    refine vk (VOK.tupd (vs := [.ag [.b x9.1.1, .sl (L x9.1.2.1), .sl (L x9.1.2.2)], .i .i64 x9.2]) (vcl0 (rat_Parse_ok hx9) Try.call21)) ?_
    refine vk (vmvd) ?_
    refine vk (vex) ?_
    refine vk (vex) ?_
    refine vk (van (zero_of gI_R) gZ_R) ?_
    refine stn ?_ gS_R (by decide)
    refine asd ?_
    refine rn ?_
    refine .gh (Gh.keep [2, 4, 10, 11] rfl) ?_
    refine .seq ?_
    obtain ⟨z10, hz, h⟩ := bnd h
    refine AW.mr (σ := Unit) (fun _ => True) (fun _ => [(4, .d (.b z10))]) (fun _ => []) ?_ ?_
    · skip
      refine .region ?_
      refine vk (vmvd) ?_
      refine vk (vbi) ?_
      by_cases hc : x9.2 = 0
      · replace hz := ite_t hc hz
        have hb0 : (decide (x9.2 = 0)) = true := (decide_eq_true hc)
        refine vk (VOK.lit (vmvd) hb0) ?_
        refine vk (vldn gA_R gS_R) ?_
        refine vk (vlda gA_R gS_R) ?_
        obtain ⟨x11, hx11, hz⟩ := bnd hz
        refine vk (vcl0 (ref2Same_ok hx11) Try.call25) ?_
        refine vk (vpkd) ?_
        refine asd ?_
        refine RL.gh (Gh.keep [4] rfl) ?_
        refine .nil ?_
        cases hz
        exact jr () trivial
      replace hz := ite_f hc hz
      have hb0 : (decide (x9.2 = 0)) = false := (decide_eq_false hc)
      refine vk (VOK.lit (vmvd) hb0) ?_
      refine gf ?_
      refine gf ?_
      refine gf ?_
      refine vk (vpkd) ?_
      refine asd ?_
      refine RL.gh (Gh.keep [4] rfl) ?_
      refine .nil ?_
      cases hz
      exact jr () trivial
    rintro _ _
    refine .ret ?_
    cases h
    exact ⟨rfl, rfl⟩
  replace h := ite_f hc h
  refine cnt (ntt (bf hc)) ?_
  refine .seq ?_
  refine .region ?_
  refine vk (vmvd) ?_
  refine vk (vsq (.inl rfl)) ?_
  refine asd ?_
  refine rn ?_
  refine .gh (Gh.keep [2, 4, 9] rfl) ?_
  refine .ret ?_
  cases h
  exact ⟨rfl, rfl⟩
end Go.FL
/-
  Plain laws, rat 15: reading a text.
-/
namespace Go.FL
open Go Go.Proofs

/-- What a text reads as, of its sign and its cut. -/
def rdR (s : Bool) (t : List Nat × Nat × List Nat) : RT × Int :=
  if parOK t.1 = false then bad 22
  else if t.2.1 = 0 then resR (mkRat (sg s (parN t.1)) 1)
  else if parOK t.2.2 = false ∨ (t.2.1 = 114 ∧ parN t.2.2 = 0) then bad 22
  else if t.2.1 = 114 then resR (mkRat (sg s (parN t.1)) (parN t.2.2))
  else resR (mkRat (sg s (parN t.1 * 10 ^ t.2.2.length + parN t.2.2)) (10 ^ t.2.2.length))
theorem spl_cases : ∀ u : List Nat, ((spl u).2.1 = 0 ∧ (spl u).1 = u ∧ (spl u).2.2 = []) ∨ (((spl u).2.1 = 46 ∨ (spl u).2.1 = 114) ∧ u = (spl u).1 ++ (spl u).2.1 :: (spl u).2.2)
  | [] => .inl ⟨rfl, rfl, rfl⟩
  | b :: u => by
    rw [spl]
    by_cases h : b = 46 ∨ b = 114
    · rw [if_pos h]; exact .inr ⟨h, rfl⟩
    · rw [if_neg h]
      rcases spl_cases u with ⟨h1, h2, h3⟩ | ⟨h1, h2⟩
      · exact .inl ⟨h1, by rw [h2], h3⟩
      · exact .inr ⟨h1, by rw [List.cons_append, ← h2]⟩
theorem par_lt (u : List Nat) : parN u < 10 ^ u.length := by
  unfold parN
  cases h : pv u 0 with
  | none => exact Nat.pow_pos (by decide)
  | some m => have := pv_lt u 0 m h; simpa using this
theorem ten_len {n k : Nat} (h : n < 10 ^ k) : (digs n).length ≤ k := digs_len (Nat.lt_of_lt_of_le h (Nat.pow_le_pow_left (by decide) k))
theorem ten_pow (k : Nat) : (digs (10 ^ k)).length ≤ k + 1 := ten_len (by rw [Nat.pow_succ]; have := Nat.pow_pos (n := k) (show 0 < 10 by decide); omega)
theorem nParse_eq {s : ByteArray} (h : s.size ≤ 5000) : nParse s = some (digs (parN (byts s)), parOK (byts s)) := if_pos h
theorem r1Parse_eq {s : ByteArray} (h : s.size ≤ 5000) : r1Parse s = some (digs (parN (byts s)), parOK (byts s)) := if_pos h
theorem ten_digs : digs 10 = [10] := one_limb (by decide) (by decide)
theorem frac_loop {x2 : Bool × ByteArray × Int × ByteArray} {x3 x4 : List Nat × Bool} {K : List Nat → List Nat → Option (RT × Int)} (hw : ∀ x ∈ byts x2.2.2.2, x < 128) (hs : x2.2.2.2.size ≤ 5000) :
    ∀ (d i k : Nat), x2.2.2.2.size - i = d → i ≤ x2.2.2.2.size → d < k → rat_Parse_l1 x2 x3 x4 K k (digs (10 ^ i)) i = ((nProduct ([x3.1, digs (10 ^ x2.2.2.2.size)])).bind fun x11 => ((nSum ([x11, x4.1])).bind fun x12 => (K x12 (digs (10 ^ x2.2.2.2.size)))))
  | 0, i, k, h1, h2, h3 => by
    obtain ⟨k, rfl⟩ : ∃ m, k = m + 1 := ⟨k - 1, by omega⟩
    rw [rat_Parse_l1, if_neg (by omega), show i = x2.2.2.2.size by omega]
  | d + 1, i, k, h1, h2, h3 => by
    obtain ⟨k, rfl⟩ : ∃ m, k = m + 1 := ⟨k - 1, by omega⟩
    have hb : (byts x2.2.2.2).getD i 0 < 128 := by
      rw [List.getD_eq_getElem?_getD, List.getElem?_eq_getElem (by rw [byts_length]; omega)]
      exact hw _ (List.getElem_mem _)
    have hl := ten_pow i
    rw [rat_Parse_l1, if_pos (by omega), ← ten_digs, prod2 (by omega) (by rw [ten_digs]; decide), Option.bind_some, (dec_small hb).2, ← Nat.pow_succ]
    exact frac_loop hw hs d (i + 1) k (by omega) (by omega) (by omega)
theorem rat_finish {a b : List Nat} {s : Bool} {n d : Nat} (ha : a = digs n) (hb : b = digs d) (hn : (digs n).length ≤ 100000) (hd : (digs d).length ≤ 100000) (h : d ≠ 0) : ((ratMake s a b).bind fun x13 => (some (x13.1, x13.2))) = some (resR (mkRat (sg s n) d)) := by
  rw [ha, hb, ratMake_eq hn hd h]; rfl
theorem add_len' {a b k : Nat} (ha : (digs a).length ≤ k) (hb : (digs b).length ≤ k) : (digs (a + b)).length ≤ k + 1 := by
  have h1 := val_lt (digs_ok a)
  have h2 := val_lt (digs_ok b)
  rw [val_digs] at h1 h2
  have h3 : a < 4294967296 ^ k := Nat.lt_of_lt_of_le h1 (Nat.pow_le_pow_right (by decide) ha)
  have h4 : b < 4294967296 ^ k := Nat.lt_of_lt_of_le h2 (Nat.pow_le_pow_right (by decide) hb)
  exact digs_len (by rw [Nat.pow_succ]; omega)
theorem enc_len (r : Int) : (byts (Utf8.encode r)).length ≤ 4 := by
  rw [byts_length]
  unfold Utf8.encode
  simp only
  repeat' split
  all_goals (simp [ByteArray.size])
theorem sap_inv {a b z : ByteArray} (h : sap? a b = some z) : z = a ++ b := (sap_some h).2
/-- The pieces are no longer than the characters make them. -/
theorem parts_short (s : ByteArray) : ∀ (k k' pos : Nat) (c m : Int) (s1 : Bool) (s2 : ByteArray) (s3 : Int) (s4 : ByteArray) (r : Bool × ByteArray × Int × ByteArray), 0 ≤ c → c + (s.size - pos : Nat) ≤ 1000000 →
    unicode_utf8_RuneCountInString_l0 s k' c pos = some m → rat_parts_l0 s k s1 s2 s3 s4 pos = some r → c ≤ m ∧ ((byts r.2.1).length + (byts r.2.2.2).length : Int) ≤ (byts s2).length + (byts s4).length + 4 * (m - c)
  | 0, _, _, _, _, _, _, _, _, _, _, _, _, h => by cases h
  | k + 1, 0, _, _, _, _, _, _, _, _, _, _, h, _ => by cases h
  | k + 1, k' + 1, pos, c, m, s1, s2, s3, s4, r, h0, hc, h1, h2 => by
    rw [unicode_utf8_RuneCountInString_l0] at h1
    rw [rat_parts_l0] at h2
    by_cases hp : pos < s.size
    · rw [if_pos hp] at h1 h2
      have hw : w64 (c + 1) = c + 1 := w64_eq (by omega) (by omega)
      have hn : pos < rnext s pos := by unfold rnext; have := Lib.width_pos s pos; omega
      have hel := enc_len (rune s pos)
      rw [hw] at h1
      have ih := fun s1 s2 s3 s4 => parts_short s k k' (rnext s pos) (c + 1) m s1 s2 s3 s4 r (by omega) (by omega) h1
      split at h2
      · have := ih _ _ _ _ h2; omega
      · split at h2
        · have := ih _ _ _ _ h2; omega
        · split at h2
          · obtain ⟨x, hx, h2⟩ := bnd h2
            have := ih _ _ _ _ h2
            rw [sap_inv hx, byts_app, List.length_append] at this
            omega
          · obtain ⟨x, hx, h2⟩ := bnd h2
            have := ih _ _ _ _ h2
            rw [sap_inv hx, byts_app, List.length_append] at this
            omega
    · rw [if_neg hp] at h1 h2
      cases h1; cases h2
      simp only; omega
theorem parse_parts {s : ByteArray} {n : Int} (hn : unicode_utf8_RuneCountInString s = some n) (h7 : n ≤ 700) (hs : s.size ≤ 2800) : rat_Parse s = some (rdR (sgnB (byts s)) (spl (behind (byts s)))) := by
  unfold rat_Parse
  obtain ⟨t2, t4, v, w, e1, e2, e3, e4, e5⟩ := parts_eq (s := s) (by omega)
  have hl := byts_length s
  have hbl : (behind (byts s)).length ≤ 2800 := by
    unfold behind; split
    · rw [List.length_drop]; omega
    · omega
  have hsz : (spl (behind (byts s))).1.length ≤ 2800 ∧ (spl (behind (byts s))).2.2.length ≤ 2800 := by
    rcases spl_cases (behind (byts s)) with ⟨_, h2, h3⟩ | ⟨_, h2⟩
    · rw [h2, h3]; exact ⟨hbl, Nat.zero_le _⟩
    · have := congrArg List.length h2
      rw [List.length_append, List.length_cons] at this
      omega
  obtain ⟨_, hsh⟩ := parts_short s _ _ 0 0 n _ _ _ _ _ (by decide) (by omega) hn e1
  have z0 : (byts (⟨#[]⟩ : ByteArray)).length = 0 := rfl
  simp only [z0] at hsh
  rw [byts_length, byts_length] at hsh
  have z2 : t2.size ≤ 5000 := by omega
  have z4 : t4.size ≤ 5000 := by omega
  have p2 := e2.par
  have p4 := e4.par
  rw [← e3] at p2
  rw [← e5] at p4
  have f0 : (0 : Int) ≤ n := by have := hsh; omega
  rw [hn, Option.bind_some, if_neg (by omega), e1, Option.bind_some, nParse_eq z2, Option.bind_some, nParse_eq z4, Option.bind_some, ratOne_eq, Option.bind_some, p2.1, p2.2, p4.1, p4.2, jn_eq]
  have hcase : (spl (behind (byts s))).2.1 = 0 ∨ (spl (behind (byts s))).2.1 = 46 ∨ (spl (behind (byts s))).2.1 = 114 := by
    rcases spl_cases (behind (byts s)) with ⟨h, _⟩ | ⟨h, _⟩
    · exact .inl h
    · exact .inr h
  generalize sgnB (byts s) = sg0 at *
  generalize spl (behind (byts s)) = t at *
  obtain ⟨l, c, q⟩ := t
  dsimp only at *
  unfold rdR
  dsimp only
  have la : (digs (parN l)).length ≤ 2800 := Nat.le_trans (ten_len (par_lt l)) hsz.1
  have lq : (digs (parN q)).length ≤ 2800 := Nat.le_trans (ten_len (par_lt q)) hsz.2
  have hone : digs 1 = [1] := one_digs
  cases hl1 : parOK l with
  | false => rw [if_pos (by rfl), if_pos rfl]
  | true =>
    rw [if_neg (show ¬ (true = false) by decide)]
    rcases hcase with rfl | rfl | rfl
    · rw [if_neg (by simp), if_neg (by decide), if_neg (by decide), if_pos rfl]
      exact rat_finish rfl hone.symm (by omega) (by rw [hone]; decide) (by decide)
    · rw [if_neg (show ¬ ((46 : Nat) = 0) by decide)]
      cases hq : parOK q with
      | false => rw [if_pos (by rfl), if_pos (.inl rfl)]
      | true =>
        rw [if_neg (by simp), if_neg (by decide), if_pos (by decide), if_neg (by simp), if_neg (by decide)]
        have hqd := parOK_dig hq
        have hwq : w = q := e4.ascii fun x hx => by have := hqd x hx; omega
        have h4q : byts t4 = q := e5.trans hwq
        have h4l : t4.size = q.length := by rw [← byts_length, h4q]
        rw [show ([1] : List Nat) = digs (10 ^ 0) by rw [Nat.pow_zero, hone]]
        have := frac_loop (x2 := (sg0, t2, ((46 : Nat) : Int), t4)) (x3 := (digs (parN l), true)) (x4 := (digs (parN q), true)) (K := fun z6 z7 => (ratMake sg0 z6 z7).bind fun x13 => some (x13.1, x13.2))
          (by rw [h4q]; intro x hx; have := hqd x hx; omega) (by omega) t4.size 0 FUEL (Nat.sub_zero _) (Nat.zero_le _) (Nat.lt_of_le_of_lt z4 (by unfold FUEL; omega))
        refine this.trans ?_
        have lt := ten_pow t4.size
        have lp : (digs (parN l * 10 ^ t4.size)).length ≤ 2 * 6000 := len2 (by omega) (by omega)
        have ls : (digs (parN l * 10 ^ t4.size + parN q)).length ≤ 20000 := by
          have := add_len' lp (show (digs (parN q)).length ≤ 2 * 6000 by omega)
          omega
        rw [prod2 (show (digs (parN l)).length ≤ 40000 by omega) (show (digs (10 ^ t4.size)).length ≤ 40000 by omega), Option.bind_some, nSum_eq (by simp [okL_digs (Nat.le_trans lp (by decide : 2 * 6000 ≤ 100000)), okL_digs (Nat.le_trans lq (by decide : 2800 ≤ 100000))]) (by simp), Option.bind_some]
        refine (rat_finish rfl rfl ?_ (show (digs (10 ^ t4.size)).length ≤ 100000 by omega) (Nat.pos_iff_ne_zero.1 (Nat.pow_pos (by decide)))).trans ?_
        · simpa [val_digs] using Nat.le_trans ls (by decide)
        · simp only [List.map_cons, List.map_nil, List.sum_cons, List.sum_nil, val_digs, Nat.add_zero]
          rw [h4l]
    · rw [if_neg (show ¬ ((114 : Nat) = 0) by decide)]
      have hz : decide (((List.length (digs (parN q)) : Nat) : Int) = 0) = decide (parN q = 0) := decide_eq_decide.2 dlen_zero
      rw [hz]
      by_cases hb : parOK q = false ∨ parN q = 0
      · rw [if_pos (by
          rcases hb with h | h
          · rw [h]; rfl
          · rw [decide_eq_true h]; simp), if_pos (by
          rcases hb with h | h
          · exact .inl h
          · exact .inr ⟨rfl, h⟩)]
      · have h1 : parOK q = true := by cases hq : parOK q with
          | false => exact absurd (.inl hq) hb
          | true => rfl
        have h2 : parN q ≠ 0 := fun h => hb (.inr h)
        rw [if_neg (by rw [h1]; simp [h2]), if_pos (by decide), if_neg (by rw [h1]; simp [h2]), if_pos rfl]
        exact rat_finish rfl rfl (by omega) (by omega) h2
end Go.FL
/-
  Plain laws, rat 16: reading a text, the reference's side.
-/
namespace Go.FL
open Go Go.Proofs

theorem count_eq (s : ByteArray) : ∀ (n pos k : Nat) (c : Int), s.size - pos ≤ n → n < k → 0 ≤ c → c + n ≤ 1000000000000000 →
    ∃ m, unicode_utf8_RuneCountInString_l0 s k c pos = some m ∧ c ≤ m ∧ m ≤ c + (s.size - pos : Nat) ∧ ((s.size - pos : Nat) : Int) ≤ 4 * (m - c) ∧ ref02_Parse_l0 s k c pos = ref02_Parse_l0 s 1 m s.size
  | 0, pos, k, c, h1, h2, h3, h4 => by
    obtain ⟨k, rfl⟩ : ∃ m, k = m + 1 := ⟨k - 1, by omega⟩
    refine ⟨c, ?_, by omega, by omega, by omega, ?_⟩
    · rw [unicode_utf8_RuneCountInString_l0, if_neg (by omega)]
    · rw [ref02_Parse_l0, if_neg (show ¬ pos < s.size by omega), ref02_Parse_l0, if_neg (Nat.lt_irrefl s.size)]
  | n + 1, pos, k, c, h1, h2, h3, h4 => by
    obtain ⟨k, rfl⟩ : ∃ m, k = m + 1 := ⟨k - 1, by omega⟩
    by_cases hp : pos < s.size
    · have hw : w64 (c + 1) = c + 1 := w64_eq (by omega) (by omega)
      have hn : pos < rnext s pos := by unfold rnext; have := Lib.width_pos s pos; omega
      have hn4 : rnext s pos ≤ pos + 4 ∧ rnext s pos ≤ s.size := by
        by_cases hb : (byts s).getD pos 0 < 128
        · rw [(dec_small hb).2]; omega
        · obtain ⟨_, _, h, h', _⟩ := dec_great hp (by omega); exact ⟨h, h'⟩
      obtain ⟨m, e1, e2, e3, e4, e5⟩ := count_eq s n (rnext s pos) k (c + 1) (by omega) (by omega) (by omega) (by omega)
      refine ⟨m, ?_, by omega, by omega, by omega, ?_⟩
      · rw [unicode_utf8_RuneCountInString_l0, if_pos hp, hw]; exact e1
      · rw [ref02_Parse_l0, if_pos hp, hw]; exact e5
    · refine ⟨c, ?_, by omega, by omega, by omega, ?_⟩
      · rw [unicode_utf8_RuneCountInString_l0, if_neg (by omega)]
      · rw [ref02_Parse_l0, if_neg (show ¬ pos < s.size by omega), ref02_Parse_l0, if_neg (Nat.lt_irrefl s.size)]
theorem l5_l2 (t : ByteArray) (K : Int → Option (RT × Int)) : ∀ (k : Nat) (i : Int), ref02_Parse_l5 t K k i = ref02_Parse_l2 t K k i
  | 0, _ => rfl
  | k + 1, i => by simp only [ref02_Parse_l5, ref02_Parse_l2, l5_l2 t K k]
theorem l6_l3 (t : ByteArray) (z : Bool) (x y : List Nat × Bool) : ∀ (k : Nat) (a : List Nat) (i : Int), ref02_Parse_l6 t z x y k a i = ref02_Parse_l3 z t x y k a i
  | 0, _, _ => rfl
  | k + 1, a, i => by simp only [ref02_Parse_l6, ref02_Parse_l3, l6_l3 t z x y k]
def refRest (z3 : Bool) (x5 : ByteArray) (z6 : Int) : Option (RT × Int) :=
  ((ss? x5 0 z6).bind fun x11 => ((r1Parse x11).bind fun x12 => (if x12.2 = true then (if z6 = ((ByteArray.size x5 : Nat) : Int) then (ref2One.bind fun x13 => ((ref2Make z3 x12.1 x13).bind fun x14 => (some (x14.1, x14.2)))) else ((ss? x5 (w64 (z6 + 1)) ((ByteArray.size x5 : Nat) : Int)).bind fun x15 => ((r1Parse x15).bind fun x16 => (Option.bind ((if x16.2 = true then ((rd? (byts x5) z6).bind fun x18 => (if ((x18 : Nat) : Int) = 114 then (some (decide (((List.length x16.1 : Nat) : Int) = 0))) else (some false))) else (some true)) : Option (Bool)) fun (z17 : Bool) => (if z17 = true then (some ((false, [], []), 22)) else ((rd? (byts x5) z6).bind fun x19 => (if ((x19 : Nat) : Int) = 114 then ((ref2Make z3 x12.1 x16.1).bind fun x20 => (some (x20.1, x20.2))) else (ref2One.bind fun x21 => (ref02_Parse_l3 z3 x5 x12 x16 FUEL x21 (w64 (z6 + 1))))))))))) else (some ((false, [], []), 22)))))
theorem cut_loop (t : ByteArray) (K : Int → Option (RT × Int)) : ∀ (d i k : Nat), t.size - i = d → i ≤ t.size → d < k → t.size ≤ 5000 → ref02_Parse_l2 t K k i = K ((i + (spl ((byts t).drop i)).1.length : Nat) : Int)
  | 0, i, k, h1, h2, h3, h4 => by
    obtain ⟨k, rfl⟩ : ∃ m, k = m + 1 := ⟨k - 1, by omega⟩
    have hl := byts_length t
    rw [ref02_Parse_l2, if_neg (by omega), Option.bind_some, if_neg (by decide), List.drop_eq_nil_of_le (by omega)]; rfl
  | d + 1, i, k, h1, h2, h3, h4 => by
    obtain ⟨k, rfl⟩ : ∃ m, k = m + 1 := ⟨k - 1, by omega⟩
    have hl := byts_length t
    have hp : i < t.size := by omega
    have hr : rd? (byts t) (i : Int) = some ((byts t).getD i 0) := by
      rw [rd?, if_pos (by omega), Int.toNat_natCast, List.getD_eq_getElem?_getD, List.getElem?_eq_getElem (by omega)]; rfl
    rw [ref02_Parse_l2, if_pos (by omega), hr, Option.bind_some, Option.bind_some, drop_one hp]
    by_cases h46 : (byts t).getD i 0 = 46
    · rw [h46, if_pos (show ((46 : Nat) : Int) = 46 from rfl), Option.bind_some, if_neg (by decide), spl, if_pos (.inl rfl)]; rfl
    · rw [if_neg (by omega), Option.bind_some]
      by_cases h114 : (byts t).getD i 0 = 114
      · rw [h114, if_neg (by decide), spl, if_pos (show (114 : Nat) = 46 ∨ (114 : Nat) = 114 from .inr rfl)]; rfl
      · rw [if_pos (by simp only [Bool.not_eq_true', decide_eq_false_iff_not]; omega), spl, if_neg (by omega), show w64 ((i : Int) + 1) = ((i + 1 : Nat) : Int) by rw [w64_eq (by omega) (by omega)]; rfl,
          cut_loop t K d (i + 1) k (by omega) (by omega) (by omega) h4]
        simp only [List.length_cons]
        congr 1; omega
theorem ref_frac {z : Bool} {t : ByteArray} {x y : List Nat × Bool} (hs : t.size ≤ 5000) : ∀ (d i k e : Nat), t.size - i = d → i ≤ t.size → d < k → e + d ≤ 5000 →
    ref02_Parse_l3 z t x y k (digs (10 ^ e)) i = ((r1Mul x.1 (digs (10 ^ (e + d)))).bind fun x25 => ((r1Add x25 y.1).bind fun x26 => ((ref2Make z x26 (digs (10 ^ (e + d)))).bind fun x27 => (some (x27.1, x27.2)))))
  | 0, i, k, e, h1, h2, h3, h4 => by
    obtain ⟨k, rfl⟩ : ∃ m, k = m + 1 := ⟨k - 1, by omega⟩
    rw [ref02_Parse_l3, if_neg (by omega)]; rfl
  | d + 1, i, k, e, h1, h2, h3, h4 => by
    obtain ⟨k, rfl⟩ : ∃ m, k = m + 1 := ⟨k - 1, by omega⟩
    have hl := ten_pow e
    rw [ref02_Parse_l3, if_pos (by omega), ← ten_digs, r1Mul_eq (by omega) (by rw [ten_digs]; decide), Option.bind_some, ← Nat.pow_succ, show w64 ((i : Int) + 1) = ((i + 1 : Nat) : Int) by rw [w64_eq (by omega) (by omega)]; rfl]
    rw [show e + (d + 1) = e + 1 + d by omega]
    exact ref_frac hs d (i + 1) k (e + 1) (by omega) (by omega) (by omega) (by omega)
theorem make_finish {a b : List Nat} {s : Bool} {n d : Nat} (ha : a = digs n) (hb : b = digs d) (hn : (digs n).length ≤ 100000) (hd : (digs d).length ≤ 100000) (h : d ≠ 0) : ((ref2Make s a b).bind fun x13 => (some (x13.1, x13.2))) = some (resR (mkRat (sg s n) d)) := by
  rw [ha, hb, ref2Make_eq hn hd h]; rfl
theorem rest_eq {z : Bool} {t : ByteArray} (hs : t.size ≤ 2800) : refRest z t (((spl (byts t)).1.length : Nat) : Int) = some (rdR z (spl (byts t))) := by
  have hl := byts_length t
  unfold refRest rdR
  have hcs := spl_cases (byts t)
  generalize hu : byts t = u at *
  generalize spl u = c at *
  obtain ⟨l, c, q⟩ := c
  dsimp only at *
  have hle : l.length ≤ u.length ∧ q.length ≤ u.length := by
    rcases hcs with ⟨_, h2, h3⟩ | ⟨_, h2⟩
    · rw [h2, h3]; exact ⟨Nat.le_refl _, Nat.zero_le _⟩
    · have := congrArg List.length h2
      rw [List.length_append, List.length_cons] at this
      omega
  have la : (digs (parN l)).length ≤ 2800 := Nat.le_trans (ten_len (par_lt l)) (by omega)
  have lq : (digs (parN q)).length ≤ 2800 := Nat.le_trans (ten_len (par_lt q)) (by omega)
  have hone : digs 1 = [1] := one_digs
  have s1 : ss? t 0 ((l.length : Nat) : Int) = some (t.extract 0 l.length) := if_pos ⟨by omega, by omega, by omega⟩
  have b1 : byts (t.extract 0 l.length) = l := by
    rw [byts_extract, hu, List.drop_zero, Nat.sub_zero]
    rcases hcs with ⟨_, h2, _⟩ | ⟨_, h2⟩
    · rw [h2, List.take_length]
    · rw [h2, List.take_left']; rfl
  have z1 : (t.extract 0 l.length).size ≤ 5000 := by rw [← byts_length, b1]; omega
  rw [s1, Option.bind_some, r1Parse_eq z1, Option.bind_some, b1]
  cases hl1 : parOK l with
  | false => rw [if_neg (show ¬ (false = true) by decide), if_pos rfl]
  | true =>
    rw [if_pos rfl, if_neg (show ¬ (true = false) by decide)]
    rcases hcs with ⟨h1, h2, h3⟩ | ⟨h1, h2⟩
    · subst h1; subst h2; subst h3
      rw [if_pos (by omega), if_pos rfl, ref2One_eq, Option.bind_some]
      exact make_finish rfl hone.symm (by omega) (by rw [hone]; decide) (by decide)
    · have hlen := congrArg List.length h2
      rw [List.length_append, List.length_cons] at hlen
      have hc0 : c ≠ 0 := by omega
      have hw : w64 ((l.length : Nat) + 1 : Int) = ((l.length + 1 : Nat) : Int) := by rw [w64_eq (by omega) (by omega)]; rfl
      have s2 : ss? t ((l.length + 1 : Nat) : Int) ((t.size : Nat) : Int) = some (t.extract (l.length + 1) t.size) := if_pos ⟨by omega, by omega, by omega⟩
      have b2 : byts (t.extract (l.length + 1) t.size) = q := by
        rw [byts_extract, hu, h2, List.drop_append, List.drop_eq_nil_of_le (by omega), List.nil_append, show l.length + 1 - l.length = 1 by omega, List.drop_one, List.tail_cons, List.take_of_length_le (by omega)]
      have z2 : (t.extract (l.length + 1) t.size).size ≤ 5000 := by rw [← byts_length, b2]; omega
      have r1 : rd? u ((l.length : Nat) : Int) = some c := by
        rw [rd?, if_pos (by omega), Int.toNat_natCast, h2, List.getElem?_append_right (by omega), Nat.sub_self]; rfl
      rw [if_neg (by omega), hw, s2, Option.bind_some, r1Parse_eq z2, Option.bind_some, b2, r1, Option.bind_some, Option.bind_some, if_neg hc0]
      have hz : decide (((List.length (digs (parN q)) : Nat) : Int) = 0) = decide (parN q = 0) := decide_eq_decide.2 dlen_zero
      rw [hz]
      cases hq : parOK q with
      | false => rw [if_neg (show ¬ (false = true) by decide), Option.bind_some, if_pos rfl, if_pos (.inl rfl)]
      | true =>
        rw [if_pos rfl]
        rcases h1 with rfl | rfl
        · rw [if_neg (by decide), Option.bind_some, if_neg (by decide), if_neg (by decide), ref2One_eq, Option.bind_some, if_neg (by simp), if_neg (by decide)]
          rw [show ([1] : List Nat) = digs (10 ^ 0) by rw [Nat.pow_zero, hone]]
          refine (ref_frac (by omega) q.length (l.length + 1) FUEL 0 (by omega) (by omega) (Nat.lt_of_le_of_lt (show q.length ≤ 5000 by omega) (by unfold FUEL; omega)) (by omega)).trans ?_
          rw [Nat.zero_add]
          have lt := ten_pow q.length
          have lp : (digs (parN l * 10 ^ q.length)).length ≤ 2 * 6000 := len2 (by omega) (by omega)
          have ls := add_len' lp (show (digs (parN q)).length ≤ 2 * 6000 by omega)
          rw [r1Mul_eq (show (digs (parN l)).length ≤ 400000 by omega) (show (digs (10 ^ q.length)).length ≤ 400000 by omega), Option.bind_some, r1Add_eq (show (digs (parN l * 10 ^ q.length)).length ≤ 500000 by omega) (show (digs (parN q)).length ≤ 500000 by omega), Option.bind_some]
          exact make_finish rfl rfl (by omega) (by omega) (Nat.pos_iff_ne_zero.1 (Nat.pow_pos (by decide)))
        · rw [if_pos (show ((114 : Nat) : Int) = 114 from rfl), Option.bind_some]
          by_cases h0 : parN q = 0
          · rw [if_pos (decide_eq_true h0), if_pos (.inr ⟨rfl, h0⟩)]
          · rw [if_neg (by simpa using h0), if_pos (show ((114 : Nat) : Int) = 114 from rfl), if_neg (show ¬ (true = false ∨ 114 = 114 ∧ parN q = 0) by simp [h0]), if_pos rfl]
            exact make_finish rfl rfl (by omega) (by omega) h0
theorem ref_parse_some {s : ByteArray} {m : Int} (hm : ref02_Parse_l0 s FUEL 0 0 = ref02_Parse_l0 s 1 m s.size) (h7 : m ≤ 700) (hs : s.size ≤ 2800) : ref02_Parse s = some (rdR (sgnB (byts s)) (spl (behind (byts s)))) := by
  unfold ref02_Parse
  have hl := byts_length s
  rw [hm, ref02_Parse_l0, if_neg (Nat.lt_irrefl s.size), if_neg (by omega)]
  have hz : (if 2 ≤ ((ByteArray.size s : Nat) : Int) then ((ss? s 0 2).bind fun x4 => (some (decide (x4 = (⟨#[194, 175]⟩ : ByteArray))))) else (some false)) = some (sgnB (byts s)) := by
    by_cases h2 : 2 ≤ ((ByteArray.size s : Nat) : Int)
    · rw [if_pos h2]
      have : ss? s 0 2 = some (s.extract 0 2) := if_pos ⟨by omega, by omega, by omega⟩
      rw [this, Option.bind_some]
      congr 1
      unfold sgnB
      refine decide_eq_decide.2 ⟨fun h => ?_, fun h => ?_⟩
      · have := congrArg byts h
        rw [byts_extract] at this
        exact this
      · apply byts_inj
        rw [byts_extract]; exact h
    · rw [if_neg h2]
      congr 1
      unfold sgnB
      symm
      rw [decide_eq_false_iff_not]
      intro h
      have := congrArg List.length h
      rw [List.length_take] at this
      simp at this; omega
  rw [hz, Option.bind_some]
  have main : ∀ (z : Bool) (t : ByteArray), t.size ≤ 2800 → ref02_Parse_l2 t (refRest z t) FUEL 0 = some (rdR z (spl (byts t))) := fun z t ht => by
    have := cut_loop t (refRest z t) t.size 0 FUEL (Nat.sub_zero _) (Nat.zero_le _) (Nat.lt_of_le_of_lt ht (by unfold FUEL; omega)) (by omega)
    refine this.trans ?_
    rw [List.drop_zero, Nat.zero_add]
    exact rest_eq ht
  cases hsg : sgnB (byts s) with
  | true =>
    rw [if_pos rfl, behind, if_pos hsg]
    have h2 : 2 ≤ s.size := by
      unfold sgnB at hsg
      have := congrArg List.length (of_decide_eq_true hsg)
      rw [List.length_take] at this
      simp at this; omega
    have : ss? s 2 ((s.size : Nat) : Int) = some (s.extract 2 s.size) := if_pos ⟨by omega, by omega, by omega⟩
    rw [this, Option.bind_some, jn_eq]
    have hb : byts (s.extract 2 s.size) = (byts s).drop 2 := by
      rw [byts_extract, List.take_of_length_le (by rw [List.length_drop]; omega)]
    have hsz : (s.extract 2 s.size).size ≤ 2800 := by
      rw [← byts_length, hb, List.length_drop]; omega
    rw [← hb]
    exact main true _ hsz
  | false =>
    rw [if_neg (by decide), behind, if_neg (by rw [hsg]; decide), jn_eq, l5_l2]
    simp only [l6_l3]
    exact main false s hs
theorem parse_same {s : ByteArray} (h : s.size ≤ 140737488351232) : ∃ x, rat_Parse s = some x ∧ ref02_Parse s = some x ∧ okA x := by
  obtain ⟨m, e1, e2, e3, e4, e5⟩ := count_eq s s.size 0 FUEL 0 (by omega) (by unfold FUEL; omega) (by omega) (by omega)
  by_cases h7 : m ≤ 700
  · refine ⟨_, parse_parts e1 h7 (by omega), ref_parse_some e5 h7 (by omega), ?_⟩
    unfold rdR
    split
    · exact okA_bad 22
    · split
      · exact okA_res _
      · split
        · exact okA_bad 22
        · split
          · exact okA_res _
          · exact okA_res _
  · refine ⟨bad 8, ?_, ?_, okA_bad 8⟩
    · have e1' : unicode_utf8_RuneCountInString s = some m := e1
      unfold rat_Parse
      rw [e1', Option.bind_some, if_pos (by omega)]
    · unfold ref02_Parse
      rw [e5, ref02_Parse_l0, if_neg (Nat.lt_irrefl s.size), if_pos (by omega)]
theorem ref_print_b {a : RT} (ha : okRB a = true) (h : rightR a = false) : ref02_Print a = some ⟨#[]⟩ := by
  unfold ref02_Print; rw [ref2Right_eq ha, h]; rfl
theorem ref_print_q {p : Rat} (hp : fits p) : ref02_Print (ofQ p) = some (bstr (txtQ p)) := by
  unfold ref02_Print
  have l1 := small_dec hp.1
  have l2 := small_dec hp.2
  have r1P : ∀ {n : Nat}, (digs n).length ≤ 100000 → r1Print (digs n) = some (bstr (decT n)) := fun {n} h => by unfold r1Print; rw [if_pos (okL_digs h), val_digs]
  have e1 : r1Print (ofQ p).2.1 = some (bstr (decT p.num.natAbs)) := r1P (Nat.le_trans hp.1 (by decide))
  have e2 : r1Print (ofQ p).2.2 = some (bstr (decT p.den)) := r1P (Nat.le_trans hp.2 (by decide))
  have e3 : r1Same (ofQ p).2.2 [1] = some (decide (p.den = 1)) := by
    unfold r1Same
    rw [if_pos (show (ofQ p).2.2.length ≤ 35184372087808 from Nat.le_trans hp.2 (by decide)), ← one_digs]
    congr 1
    exact decide_eq_decide.2 ⟨digs_inj, fun h => by show digs p.den = digs 1; rw [h]⟩
  have s1 : sap? (⟨#[194, 175]⟩ : ByteArray) (bstr (decT p.num.natAbs)) = some (bstr ([194, 175] ++ decT p.num.natAbs)) := sap_eq (a := [194, 175]) (by simp; omega)
  have s2 : sap? (⟨#[114]⟩ : ByteArray) (bstr (decT p.den)) = some (bstr ([114] ++ decT p.den)) := sap_eq (a := [114]) (by simp; omega)
  rw [ref2Right_eq (ofQ_okRB hp), ofQ_right hp, Option.bind_some, if_pos rfl, e1, Option.bind_some, ref2One_eq]
  show (if decide (p.num < 0) = true then _ else _) = _
  unfold txtQ
  by_cases hs : p.num < 0
  · rw [if_pos (decide_eq_true hs), s1, Option.bind_some, Option.bind_some, e3, Option.bind_some, if_pos hs]
    by_cases hd : p.den = 1
    · rw [if_pos (decide_eq_true hd), if_pos hd, List.append_nil]
    · rw [if_neg (by simpa using hd), e2, Option.bind_some, s2, Option.bind_some, sap_eq (by simp; omega), Option.bind_some, if_neg hd, List.append_assoc]; rfl
  · rw [if_neg (by simpa using hs), Option.bind_some, e3, Option.bind_some, if_neg hs, List.nil_append]
    by_cases hd : p.den = 1
    · rw [if_pos (decide_eq_true hd), if_pos hd, List.append_nil]
    · rw [if_neg (by simpa using hd), e2, Option.bind_some, s2, Option.bind_some, sap_eq (by simp; omega), Option.bind_some, if_neg hd]; rfl
theorem decT_dig2 (n : Nat) : ∀ x ∈ decT n, 48 ≤ x ∧ x ≤ 57 := by
  unfold decT
  split
  · simp
  · intro x hx
    exact decR_dig n x (by simpa using hx)
theorem spl_dec : ∀ {l : List Nat}, (∀ x ∈ l, 48 ≤ x ∧ x ≤ 57) → ∀ u, spl (l ++ u) = (l ++ (spl u).1, (spl u).2.1, (spl u).2.2)
  | [], _, u => rfl
  | x :: l, h, u => by
    have h1 := h x (by simp)
    rw [List.cons_append, spl, if_neg (by omega), spl_dec fun y hy => h y (by simp [hy])]; rfl
theorem parse_print {p : Rat} (hp : fits p) : rat_Parse (bstr (txtQ p)) = some (ofQ p, 0) := by
  have l1 := small_dec hp.1
  have l2 := small_dec hp.2
  have d1 := decT_dig2 p.num.natAbs
  have d2 := decT_dig2 p.den
  have hlt : ∀ x ∈ txtQ p, x < 256 := by
    intro x hx
    unfold txtQ at hx
    simp only [List.mem_append] at hx
    rcases hx with hx | hx | hx
    · split at hx
      · simp at hx; omega
      · cases hx
    · have := d1 x hx; omega
    · split at hx
      · cases hx
      · rcases List.mem_cons.1 hx with rfl | hx
        · decide
        · have := d2 x hx; omega
  have hby : byts (bstr (txtQ p)) = txtQ p := byts_bstr hlt
  have hlen : (txtQ p).length ≤ 630 := by
    unfold txtQ
    simp only [List.length_append]
    have : (if p.num < 0 then [194, 175] else ([] : List Nat)).length ≤ 2 := by split <;> simp
    have : (if p.den = 1 then ([] : List Nat) else 114 :: decT p.den).length ≤ 311 := by
      split
      · simp
      · simp only [List.length_cons]; omega
    omega
  have hsz : (bstr (txtQ p)).size ≤ 630 := by rw [← byts_length, hby]; exact hlen
  obtain ⟨m, e1, e2, e3, e4, _⟩ := count_eq (bstr (txtQ p)) (bstr (txtQ p)).size 0 FUEL 0 (by omega) (by unfold FUEL; omega) (by omega) (by omega)
  rw [parse_parts e1 (by omega) (by omega), hby]
  have hne := decT_ne p.num.natAbs
  have hsg : sgnB (txtQ p) = decide (p.num < 0) := by
    unfold sgnB txtQ
    by_cases h : p.num < 0
    · rw [if_pos h, decide_eq_true h]; rfl
    · rw [if_neg h, decide_eq_false h, List.nil_append, decide_eq_false_iff_not]
      intro h2
      cases hd : decT p.num.natAbs with
      | nil => exact hne hd
      | cons x r =>
        rw [hd] at h2 d1
        have := d1 x (by simp)
        rw [List.cons_append, List.take_succ_cons] at h2
        have := (List.cons.inj h2).1
        omega
  have hbe : behind (txtQ p) = decT p.num.natAbs ++ (if p.den = 1 then [] else 114 :: decT p.den) := by
    unfold behind
    rw [hsg]
    unfold txtQ
    by_cases h : p.num < 0
    · rw [if_pos (decide_eq_true h), if_pos h]; rfl
    · rw [if_neg (by simpa using h), if_neg h]; rfl
  obtain ⟨a1, a2⟩ := par_decT p.num.natAbs
  obtain ⟨b1, b2⟩ := par_decT p.den
  rw [hsg, hbe, spl_dec d1]
  have fin : mkRat (sg (decide (p.num < 0)) p.num.natAbs) p.den = p := valQ_of p
  unfold rdR
  by_cases hd : p.den = 1
  · rw [if_pos hd]
    simp only [spl, List.append_nil, a1, a2]
    rw [if_neg (by decide), if_pos trivial, ← hd, fin, resR_fits hp]
  · rw [if_neg hd]
    have hsp : spl (114 :: decT p.den) = ([], 114, decT p.den) := by rw [spl, if_pos (.inr rfl)]
    have h0 := p.den_nz
    rw [hsp]
    dsimp only
    rw [List.append_nil, a1, a2, b1, b2, if_neg (show ¬ (true = false) by decide), if_neg (show ¬ ((114 : Nat) = 0) by decide), if_neg (show ¬ (true = false ∨ 114 = 114 ∧ p.den = 0) by simp [h0]), if_pos rfl, fin, resR_fits hp]
theorem lawTexts {a : RT} {s : ByteArray} (ha : okRB a = true) (hs : s.size ≤ reachBytes) : law02_RatTexts a s = some true := by
  unfold law02_RatTexts
  obtain ⟨x, x1, x2, x3⟩ := parse_same (s := s) hs
  rw [x1, Option.bind_some, x2, Option.bind_some]
  rcases right_cases (r := a) with h | ⟨p, hp, rfl⟩
  · rw [print_b ha h, Option.bind_some, live_eq, Option.bind_some, if_pos rfl, same_refl x3, Option.bind_some, if_pos rfl, ref_print_b ha h, Option.bind_some, decide_eq_true rfl, Option.bind_some, if_neg (by decide), ratRight_eq ha, h, Option.bind_some, if_neg (by decide)]
  · rw [print_q hp, Option.bind_some, live_eq, Option.bind_some, if_pos rfl, same_refl x3, Option.bind_some, if_pos rfl, ref_print_q hp, Option.bind_some, decide_eq_true rfl, Option.bind_some, if_neg (by decide), ratRight_eq ha, ofQ_right hp, Option.bind_some, if_pos rfl,
      parse_print hp, Option.bind_some, if_pos rfl, ref2Same_self ha]; rfl
end Go.FL
/-
  The statement RatTextsSaid: for every input the law gives true, and each argument reads as it read before.
-/
namespace Go.Proofs.Ytijibkhkoopgpaa.ratTexts
open Go.ChangeShapes Go.WideShapes Go.ChangeAt Go.RowKit Go.FL

theorem own : ownKnob Try.prog.godebug = none := by kernel_rfl
theorem laid : laidOutB Try.prog = true := by kernel_rfl
theorem params : ∀ t ∈ Try.f4.params.toList, Try.prog.readableRec t = true ∧ t < Try.prog.types.size := by
  intro t ht
  simp only [Try.params4, List.mem_cons, List.not_mem_nil, or_false] at ht
  rcases ht with rfl | rfl <;> exact ⟨by kernel_rfl, of_decide_eq_true (by kernel_rfl)⟩
set_option maxRecDepth 100000 in
theorem lifted (os : Os) (started : os.Started) (H : Type) (enc : TypeId × Value → H) :
    ReturnsInHanded {} Try.checked os 4 .any (Rows.ratTextsSpec.pre6 enc Try.prog Try.f4 Rows.ratTextsRow.domain false) (Rows.ratTextsSpec.post enc Try.prog Try.f4 false true false false) := by
  refine returnsInHanded_of_change_sized (C := Try.checked) own started (by kernel_rfl) Try.func4
    (ChangeSpec.witness6 (enc := enc) (C := Try.checked) false ⟨#[], #[.agg #[.bool false, .slice none 0 0, .slice none 0 0], .string ByteArray.empty], []⟩ 8 (by kernel_rfl) (by kernel_rfl) (by kernel_rfl) (by kernel_rfl)) ?_
  intro W base args ds gs before hval0 hW hcnd hsz _
  have hval : ∀ (j : Nat) t v, Try.f4.params[j]? = some t → args[j]? = some v → Value.okWide Try.prog W .any base t v := hval0
  have hW' := hW
  obtain ⟨p, q, hA0, hV, rfl, hfz, hnd⟩ := hW
  have hA : DataW.TrodAll enc Try.prog W 0 (fun _ => true) true Try.f4.params.toList args.toList ds p := hA0
  rw [Try.params4] at hA hval
  obtain ⟨v0, vs0, d0, ds0, p0, q0, hargs, rfl, rfl, h0, r0⟩ := trodAll_cons hA
  obtain ⟨v1, vs1, d1, ds1, p1, q1, rfl, rfl, rfl, h1, r1⟩ := trodAll_cons r0
  obtain ⟨rfl, rfl, rfl⟩ := trodAll_nil r1
  obtain rfl : args = #[v0, v1] := by cases args; simp_all
  obtain ⟨rfl, rfl⟩ := trodVars_none hV
  rw [Try.params4] at hsz
  have w0 : ∀ m ∈ DataW.weights Try.prog 25 d0, m ≤ reachBytes := fun m hm => by simpa using List.all_eq_true.1 hsz m (DataW.weights_mem_each (j := 0) rfl rfl m hm)
  obtain ⟨a0, o0, e0⟩ := arg_agg (v := v0) op_rat (let ⟨cs, h, _⟩ := okWide_struct (P := Try.prog) Try.underlying25 (hval 0 25 v0 rfl rfl); ⟨cs, h⟩) h0 w0
  have w1 : ∀ m ∈ DataW.weights Try.prog 9 d1, m ≤ reachBytes := fun m hm => by simpa using List.all_eq_true.1 hsz m (DataW.weights_mem_each (j := 1) rfl rfl m hm)
  obtain ⟨a1, o1, e1⟩ := arg_cell (v := v1) op_str (by obtain ⟨s0, hs0, _⟩ := Go.ChangeMaps.open_string Try.underlying9 (hval 1 9 v1 rfl rfl) h1; subst hs0; rfl) h1 w1
  refine (law_calls (law02_RatTexts_ok (lawTexts o0 o1)) (.cons e0 (.cons e1 .nil))).mono fun e W' ⟨he, hb⟩ => ?_
  subst he
  exact ⟨_, rfl, post_law hW' rfl (fun _ => rfl) rfl Try.underlying4 laid params hb⟩

theorem over : Rows.ratTextsRow.holds Try.pinned (OpenSpec.ofChange Rows.ratTextsSpec) :=
  OpenClaim.holds_of_wide 4 Try.f4 rfl rfl rfl rfl rfl rfl rfl ⟨rfl, rfl, rfl, rfl, rfl⟩ rfl rfl rfl rfl rfl (by kernel_rfl) Try.func4 (by kernel_rfl)
    (of_decide_eq_true (by kernel_rfl)) (by unfold Func.isWrapper; first | (rw [if_pos (by decide +kernel)]; kernel_rfl) | (rw [if_neg (by decide +kernel)]; exact ⟨rfl, rfl⟩))
    (fun os started H enc _ => lifted os started H enc)

theorem proved : Rows.RatTextsSaid :=
  over
end Go.Proofs.Ytijibkhkoopgpaa.ratTexts
