/-
  The law: its function printed as a pure function, its contract, the plain law, the statement
-/
import Derived.Test.YtijibkhkoopgpaaGreatRaE
import Derived.Test.YtijibkhkoopgpaaGreatRows
set_option linter.unusedVariables false
/-
  GP: the law RatMakes.
-/
namespace Go.FL
open Go Go.Proofs

end Go.FL
/-
  GP: the law RatReckons.
-/
namespace Go.FL
open Go Go.Proofs

end Go.FL
/-
  GP: the law RatOrders.
-/
namespace Go.FL
open Go Go.Proofs

end Go.FL
/-
  GP: the law RatRounds.
-/
namespace Go.FL
open Go Go.Proofs

end Go.FL
/-
  Plain laws, rat 7: RatMakes, RatReckons, RatOrders, RatRounds.
-/
namespace Go.FL
open Go Go.Proofs

theorem ofQ_len {p : Rat} (h : fits p) : (ofQ p).2.1.length ≤ 1048576 ∧ (ofQ p).2.2.length ≤ 1048576 := ⟨Nat.le_trans h.1 (by decide), Nat.le_trans h.2 (by decide)⟩
/-- An answer whose number is not too long. -/
def okA (x : RT × Int) : Prop := x.1.2.1.length ≤ 1048576 ∧ x.1.2.2.length ≤ 1048576
theorem okA_bad (e : Int) : okA (bad e) := ⟨Nat.zero_le _, Nat.zero_le _⟩
theorem okA_of {p : Rat} (h : fits p) (e : Int) : okA (ofQ p, e) := ofQ_len h
theorem okA_res (p : Rat) : okA (resR p) := by
  by_cases h : fits p
  · rw [resR_fits h]; exact okA_of h 0
  · rw [resR_not h]; exact okA_bad 8
theorem same_refl {x : RT × Int} (h : okA x) : law02_same x.1 x.2 x.1 x.2 = some true := by rw [same_eq (Nat.le_trans h.1 (by decide)) (Nat.le_trans h.2 (by decide))]; simp
end Go.FL
/-
  GP: the law RatBack.
-/
namespace Go.FL
open Go Go.Proofs

end Go.FL
/-
  GP: the law RatResidues.
-/
namespace Go.FL
open Go Go.Proofs

end Go.FL
/-
  Plain laws, rat 8: RatBack, RatResidues.
-/
namespace Go.FL
open Go Go.Proofs

/-- What Residue gives. -/
def modR (p q : Rat) : RT × Int := if p = 0 then (ofQ q, 0) else if fits (q / p) then (if fits ((q / p).floor : Rat) then (if fits (p * ((q / p).floor : Rat)) then resR (q - p * ((q / p).floor : Rat)) else bad 8) else bad 8) else bad 8
theorem residue_b {a b : RT} (ha : okRB a = true) (hb : okRB b = true) (h : (rightR a && rightR b) = false) : rat_Residue a b = some (bad 22) := by
  unfold rat_Residue; rw [ratAll2 ha hb, Option.bind_some, h, if_neg (by decide)]
theorem residue_q {p q : Rat} (hp : fits p) (hq : fits q) : rat_Residue (ofQ p) (ofQ q) = some (modR p q) := by
  unfold rat_Residue modR
  rw [ratAll2 (ofQ_okRB hp) (ofQ_okRB hq), two_right hp hq, Option.bind_some, if_pos rfl]
  by_cases h0 : p = 0
  · rw [if_pos h0, if_pos (num_zero.2 h0), copied_q hq, Option.bind_some]
    have e : (decide (q.num < 0) && decide (q ≠ 0)) = decide (q.num < 0) := by
      by_cases h : q = 0
      · subst h; rfl
      · rw [decide_eq_true (p := q ≠ 0) h, Bool.and_true]
    show some (((decide (q.num < 0) && decide (q ≠ 0)), _, _), _) = _
    rw [e]; rfl
  rw [if_neg h0, if_neg (fun h => h0 (num_zero.1 h)), div_q hq hp, if_neg h0, Option.bind_some]
  by_cases h1 : fits (q / p)
  · rw [if_pos h1, resR_fits h1, if_pos rfl, floor_q h1, Option.bind_some]
    by_cases h2 : fits ((q / p).floor : Rat)
    · rw [if_pos h2, resR_fits h2, if_pos rfl, mul2_q hp h2, Option.bind_some]
      by_cases h3 : fits (p * ((q / p).floor : Rat))
      · rw [if_pos h3, resR_fits h3, if_pos rfl, sub_q hq h3]; rfl
      · rw [if_neg h3, resR_not h3, if_neg (by decide)]
    · rw [if_neg h2, resR_not h2, if_neg (by decide), if_neg (by decide)]
  · rw [if_neg h1, resR_not h1, if_neg (by decide), if_neg (by decide), if_neg (by decide)]
end Go.FL
/-
  GP: the law RatCompares.
-/
namespace Go.FL
open Go Go.Proofs

end Go.FL
/-
  Plain laws, rat 9: RatCompares.
-/
namespace Go.FL
open Go Go.Proofs

def absR (p : Rat) : Rat := if p < 0 then -p else p
def maxA (p q : Rat) : Rat := if absR p < absR q then absR q else absR p
def within (c p q : Rat) : Prop := absR (p - q) ≤ c * maxA p q
instance (c p q : Rat) : Decidable (within c p q) := inferInstanceAs (Decidable (_ ≤ _))
theorem cmpN_lt {m n : Nat} : cmpN m n < 0 ↔ m < n := by
  unfold cmpN; split
  · simp [*]
  · split <;> simp [*]
theorem cmpN_le {m n : Nat} : cmpN m n ≤ 0 ↔ m ≤ n := by
  unfold cmpN; split
  · simp; omega
  · split
    · simp; omega
    · constructor
      · intro h; omega
      · intro h; omega
end Go.FL
/-
  Plain laws, rat 10: RatCompares, the reference's side and the law.
-/
namespace Go.FL
open Go Go.Proofs

end Go.FL
/-
  GP: the law RatPowers.
-/
namespace Go.FL
open Go Go.Proofs

end Go.FL
/-
  Plain laws, rat 11: powers, RatPowers.
-/
namespace Go.FL
open Go Go.Proofs

theorem equal_digs {m n : Nat} (hm : (digs m).length ≤ 1048576) (hn : (digs n).length ≤ 1048576) : sEqualL (digs m) (digs n) = some (decide (m = n)) := by
  rw [equalL_eq (okL_digs hm) (okL_digs (by omega))]
  congr 1
  exact decide_eq_decide.2 ⟨digs_inj, fun h => by rw [h]⟩
theorem power_b {a b : RT} (ha : okRB a = true) (hb : okRB b = true) (h : (rightR a && rightR b) = false) : rat_Power a b = some (bad 22) := by
  unfold rat_Power; rw [ratAll2 ha hb, h]; rfl
end Go.FL
/-
  GP: the law TopField.
-/
namespace Go.FL
open Go Go.Proofs

end Go.FL
/-
  Plain laws, rat 12: printing a number, TopField.
-/
namespace Go.FL
open Go Go.Proofs

theorem small_lt {n : Nat} (h : small n) : n < 4294967296 ^ 32 := by
  have := val_lt (digs_ok n)
  rw [val_digs] at this
  exact Nat.lt_of_lt_of_le this (Nat.pow_le_pow_right (by decide) h)
end Go.FL
/-
  GP: the law RatPascal.
-/
namespace Go.FL
open Go Go.Proofs

end Go.FL
/-
  Plain laws, rat 13: RatPascal.
-/
namespace Go.FL
open Go Go.Proofs

/-- The number of ways to choose. -/
def ch : Nat → Nat → Nat
  | _, 0 => 1
  | 0, _ + 1 => 0
  | n + 1, k + 1 => ch n k + ch n (k + 1)
theorem ch_zero (n : Nat) : ch n 0 = 1 := by cases n <;> rfl
theorem ch_step : ∀ (n k : Nat), (ch n (k + 1) : Int) * (k + 1) = ch n k * ((n : Int) - k)
  | 0, 0 => by simp [ch]
  | 0, k + 1 => by simp [ch]
  | n + 1, 0 => by
    have ih := ch_step n 0
    rw [ch_zero] at ih ⊢
    simp only [ch, ch_zero]
    push_cast at ih ⊢
    grind
  | n + 1, k + 1 => by
    have i1 := ch_step n k
    have i2 := ch_step n (k + 1)
    simp only [ch]
    push_cast at i1 i2 ⊢
    grind
theorem ch_div {n j : Nat} (h1 : 1 ≤ j) (h2 : j ≤ n) : ch n (j - 1) * (n + 1 - j) / j = ch n j := by
  have := ch_step n (j - 1)
  have e : ch n (j - 1) * (n + 1 - j) = ch n j * j := by
    obtain ⟨i, rfl⟩ : ∃ i, j = i + 1 := ⟨j - 1, by omega⟩
    rw [Nat.add_sub_cancel] at this ⊢
    have h3 : ((n + 1 - (i + 1) : Nat) : Int) = (n : Int) - i := by omega
    apply Int.natCast_inj.1
    rw [Int.natCast_mul, Int.natCast_mul, h3, ← this]; rfl
  rw [e, Nat.mul_div_cancel _ (by omega)]
theorem prod2 {a b : Nat} (ha : (digs a).length ≤ 40000) (hb : (digs b).length ≤ 40000) : nProduct [digs a, digs b] = some (digs (a * b)) := by
  rw [nProduct_eq (by simp [okL_digs ha, okL_digs hb]) (by simp)]
  simp [prodF, val_digs]
theorem minus_eq {m n : Nat} (hm : (digs m).length ≤ 500000) (hn : (digs n).length ≤ 500000) : nMinus (digs m) (digs n) = some (digs (minN m n), decide (n ≤ m)) := by
  unfold nMinus
  rw [if_pos (by rw [okL_digs hm, okL_digs hn]; rfl), val_digs, val_digs]
theorem divMod_eq {m n : Nat} (hm : (digs m).length ≤ 500000) (hn : (digs n).length ≤ 500000) (h : n ≠ 0) : nDivMod (digs m) (digs n) = some (digs (m / n), digs (m % n), true) := by
  unfold nDivMod
  rw [if_pos (by rw [okL_digs hm, okL_digs hn]; rfl), val_digs, val_digs, remN_eq h, decide_eq_true h]
theorem few {n : Nat} (h : n < 4294967296) (k : Nat) : (digs n).length ≤ k + 1 := Nat.le_trans (few_len h) (by omega)
theorem nat_parts (n : Nat) : ofQ (((n : Nat) : Int) : Rat) = (false, digs n, [1]) := by
  unfold ofQ
  rw [Rat.num_intCast, Rat.den_intCast, one_digs]
  simp
theorem jn_eq {α β : Type} (k : α) (b : α → β) : jn k b = b k := rfl
end Go.FL
/-
  Plain laws, rat 17: the reference's residues; factorials.
-/
namespace Go.FL
open Go Go.Proofs

theorem ref_residue_b {a b : RT} (ha : okRB a = true) (hb : okRB b = true) (h : (rightR a && rightR b) = false) : ref02_Residue a b = some (bad 22) := by
  unfold ref02_Residue
  rw [right2_eq ha hb, h]; rfl
theorem ref_residue_q {p q : Rat} (hp : fits p) (hq : fits q) : ref02_Residue (ofQ p) (ofQ q) = some (modR p q) := by
  unfold ref02_Residue modR
  rw [right2_eq (ofQ_okRB hp) (ofQ_okRB hq), two_right hp hq, if_neg (by decide)]
  by_cases h0 : p = 0
  · rw [if_pos h0, if_pos (num_zero.2 h0), ref_copied_q hq]; rfl
  rw [if_neg h0, if_neg (fun h => h0 (num_zero.1 h)), ref_div_q hq hp, if_neg h0, Option.bind_some]
  by_cases h1 : fits (q / p)
  · rw [if_pos h1, resR_fits h1, if_pos rfl, ref_floor_q h1, Option.bind_some]
    by_cases h2 : fits ((q / p).floor : Rat)
    · rw [if_pos h2, resR_fits h2, if_pos rfl, ref_times_q hp h2, Option.bind_some]
      by_cases h3 : fits (p * ((q / p).floor : Rat))
      · rw [if_pos h3, resR_fits h3, if_pos rfl, ref_neg_q h3, Option.bind_some, two_q hq (fits_neg h3), ← Rat.sub_eq_add_neg]; rfl
      · rw [if_neg h3, resR_not h3, if_neg (by decide)]
    · rw [if_neg h2, resR_not h2, if_neg (by decide)]
  · rw [if_neg h1, resR_not h1, if_neg (by decide)]
theorem modR_okA {p q : Rat} (hq : fits q) : okA (modR p q) := by
  unfold modR
  split
  · exact okA_of hq 0
  · split
    · split
      · split
        · exact okA_res _
        · exact okA_bad 8
      · exact okA_bad 8
    · exact okA_bad 8
/-! factorials -/
def fac : Nat → Nat
  | 0 => 1
  | n + 1 => (n + 1) * fac n
theorem fac_le : ∀ {m n : Nat}, m ≤ n → fac m ≤ fac n
  | m, 0, h => by rw [show m = 0 by omega]; exact Nat.le_refl _
  | m, n + 1, h => by
    by_cases e : m = n + 1
    · rw [e]; exact Nat.le_refl _
    · exact Nat.le_trans (fac_le (show m ≤ n by omega)) (by rw [fac]; exact Nat.le_mul_of_pos_left _ (Nat.succ_pos n))
/-- What Factorial gives of a whole number. -/
def facR (n : Nat) : RT × Int := if small (fac n) then ((false, digs (fac n), [1]), 0) else bad 8
theorem fac_gt : ¬ small (fac 200) := by
  unfold small
  intro h
  have := val_lt (digs_ok (fac 200))
  rw [val_digs] at this
  have h2 : fac 200 < 4294967296 ^ 32 := Nat.lt_of_lt_of_le this (Nat.pow_le_pow_right (by decide) h)
  exact absurd h2 (by decide +kernel)
theorem fac_small {m n : Nat} (h : m ≤ n) (hs : small (fac n)) : small (fac m) := Nat.le_trans (digs_mono (fac_le h)) hs
theorem fac_loop {a : RT} {n : Nat} (ha : a.2.1 = digs n) (hn : (digs n).length ≤ 32) : ∀ (d j k : Nat) (s : RT) (e : Int), d = 201 - j → 1 ≤ j → j ≤ 201 → j - 1 ≤ n → small (fac (j - 1)) → d < k →
    rat_Factorial_l0 a k s e (digs (fac (j - 1))) (digs j) = some (facR n)
  | 0, j, k, s, e, h1, h2, h3, h4, h5, h6 => by
    have : j = 201 := by omega
    subst this
    exact absurd h5 fac_gt
  | d + 1, j, k, s, e, h1, h2, h3, h4, h5, h6 => by
    obtain ⟨k, rfl⟩ : ∃ m, k = m + 1 := ⟨k - 1, by omega⟩
    rw [rat_Factorial_l0, ha, nCompare_eq (few (by omega) _) (Nat.le_trans hn (by decide)), Option.bind_some]
    by_cases hj : j ≤ n
    · have hf : fac (j - 1) * j = fac j := by
        obtain ⟨i, rfl⟩ : ∃ i, j = i + 1 := ⟨j - 1, by omega⟩
        rw [Nat.add_sub_cancel, fac, Nat.mul_comm]
      rw [if_pos (cmpN_le.2 hj), prod2 (Nat.le_trans h5 (by decide)) (few (by omega) _), Option.bind_some, hf]
      by_cases hs : small (fac j)
      · have hs' : (digs (fac j)).length ≤ 32 := hs
        rw [if_neg (by omega), ratOne_eq, Option.bind_some, sum_one (few (by omega) _), Option.bind_some]
        exact fac_loop ha hn d (j + 1) k s e (by omega) (by omega) (by omega) hj (by exact hs) (by omega)
      · have hs' : ¬ (digs (fac j)).length ≤ 32 := hs
        rw [if_pos (by omega)]
        unfold facR
        rw [if_neg (fun h => hs (fac_small hj h))]
    · have hjn : j - 1 = n := by omega
      rw [if_neg (mt cmpN_le.1 hj), ratOne_eq, Option.bind_some, hjn]
      unfold facR
      rw [hjn] at h5
      rw [if_pos h5]
/-- Whole, and not below 0. -/
def wholeR (p : Rat) : Bool := decide (p.den = 1) && !decide (p.num < 0)
theorem natural_eq {p : Rat} (hp : fits p) : rat_natural (ofQ p) = some (wholeR p) := by
  unfold rat_natural wholeR
  rw [isInt_q hp]; rfl
theorem ref_whole_eq {p : Rat} (hp : fits p) : ref02_whole (ofQ p) = some (wholeR p) := by
  unfold ref02_whole wholeR
  rw [ref_isInt_eq (ofQ_okRB hp), isInt_q hp]; rfl
def factR (p : Rat) : RT × Int := if wholeR p = true then facR p.num.natAbs else bad 3
theorem factorial_q {p : Rat} (hp : fits p) : rat_Factorial (ofQ p) = some (factR p) := by
  unfold rat_Factorial factR
  rw [ratRight_eq (ofQ_okRB hp), ofQ_right hp, Option.bind_some, if_pos rfl, natural_eq hp, Option.bind_some]
  by_cases h : wholeR p = true
  · rw [if_pos h, if_pos h, ratOne_eq, Option.bind_some, Option.bind_some]
    have := fac_loop (a := ofQ p) (n := p.num.natAbs) rfl hp.1 200 1 FUEL (false, [], []) 0 rfl (by decide) (by decide) (by omega) (by show (digs 1).length ≤ 32; rw [one_digs]; decide) (Nat.lt_trans (show 200 < 1000 by decide) (by unfold FUEL; omega))
    rw [Nat.sub_self, show digs (fac 0) = [1] from one_digs, one_digs] at this
    exact this
  · rw [if_neg h, if_neg h]
theorem factorial_b {a : RT} (ha : okRB a = true) (h : rightR a = false) : rat_Factorial a = some (bad 22) := by
  unfold rat_Factorial; rw [ratRight_eq ha, h]; rfl
theorem fac_lt : ∀ n : Nat, n < 4294967296 → fac n ≤ 4294967295 ^ n
  | 0, _ => by decide
  | n + 1, h => by
    rw [fac, Nat.pow_succ, Nat.mul_comm]
    exact Nat.mul_le_mul (fac_lt n (by omega)) (by omega)
theorem fac_len {n : Nat} (h : n ≤ 1000) : (digs (fac n)).length ≤ n + 1 := digs_len (by
  refine Nat.lt_of_le_of_lt (fac_lt n (by omega)) ?_
  rw [Nat.pow_succ]
  have h1 : 4294967295 ^ n ≤ 4294967296 ^ n := Nat.pow_le_pow_left (by decide) n
  have h2 : 0 < 4294967296 ^ n := Nat.pow_pos (by decide)
  omega)
theorem ref_fac_loop {n : Nat} {b : Bool} (hn : n ≤ 1000) : ∀ (d i k : Nat), d = 1001 - i → 2 ≤ i → i ≤ 1001 → i ≤ n + 1 ∨ i = 2 → d < k → ref02_Factorial_l0 ((n : Int), b) k (digs (fac (i - 1))) i = ((ref2Make false (digs (fac n)) [1]).bind fun x10 => (some (x10.1, x10.2)))
  | 0, i, k, h1, h2, h3, h4, h5 => by
    obtain ⟨k, rfl⟩ : ∃ m, k = m + 1 := ⟨k - 1, by omega⟩
    have hi : i = 1001 := by omega
    rw [ref02_Factorial_l0, if_neg (by show ¬ (i : Int) ≤ n; omega), ref2One_eq, Option.bind_some, show i - 1 = n by omega]
  | d + 1, i, k, h1, h2, h3, h4, h5 => by
    obtain ⟨k, rfl⟩ : ∃ m, k = m + 1 := ⟨k - 1, by omega⟩
    rw [ref02_Factorial_l0]
    by_cases hi : i ≤ n
    · have hf : fac (i - 1) * i = fac i := by
        obtain ⟨j, rfl⟩ : ∃ j, i = j + 1 := ⟨i - 1, by omega⟩
        rw [Nat.add_sub_cancel, fac, Nat.mul_comm]
      have hl := fac_len (n := i - 1) (by omega)
      have hw : IntKind.wrap .u64 (i : Int) = (i : Int) := wraps_u64 _ (by omega) (by omega)
      have ho : r1Of (i : Int) = some (digs i) := by unfold r1Of; rw [if_pos (by omega), Int.toNat_natCast]
      rw [if_pos (show (i : Int) ≤ n by omega), hw, ho, Option.bind_some, r1Mul_eq (by omega) (few (by omega) _), Option.bind_some, hf, show w64 ((i : Int) + 1) = ((i + 1 : Nat) : Int) by rw [w64_eq (by omega) (by omega)]; rfl]
      exact ref_fac_loop hn d (i + 1) k (by omega) (by omega) (by omega) (.inl (by omega)) (by omega)
    · rw [if_neg (show ¬ (i : Int) ≤ n by omega), ref2One_eq, Option.bind_some]
      have : fac (i - 1) = fac n := by
        rcases h4 with h | h
        · rw [show i - 1 = n by omega]
        · subst h
          match n, hi with
          | 0, _ => rfl
          | 1, _ => rfl
          | n + 2, hi => omega
      rw [this]
theorem facR_res (n : Nat) : resR (mkRat (sg false n) 1) = if small n then ((false, digs n, [1]), 0) else bad 8 := by
  have e : mkRat (sg false n) 1 = (((n : Nat) : Int) : Rat) := mkRat_one _
  rw [e]
  have hf : fits (((n : Nat) : Int) : Rat) ↔ small n := by
    unfold fits
    rw [Rat.num_intCast, Rat.den_intCast, Int.natAbs_natCast]
    exact ⟨fun h => h.1, fun h => ⟨h, fits_one.2⟩⟩
  by_cases h : small n
  · rw [if_pos h, resR_fits (hf.2 h), nat_parts]
  · rw [if_neg h, resR_not (mt hf.1 h)]
theorem ref_factorial_q {p : Rat} (hp : fits p) : ref02_Factorial (ofQ p) = some (factR p) := by
  unfold ref02_Factorial factR
  rw [ref2Right_eq (ofQ_okRB hp), ofQ_right hp, Option.bind_some, if_pos rfl, ref_whole_eq hp, Option.bind_some]
  by_cases h : wholeR p = true
  · have hs : r1Small (ofQ p).2.1 = some (((if bitsN p.num.natAbs ≤ 63 then p.num.natAbs else 0 : Nat) : Int), decide (bitsN p.num.natAbs ≤ 63)) := by
      show r1Small (digs p.num.natAbs) = _
      unfold r1Small
      rw [if_pos (okL_digs (Nat.le_trans hp.1 (by decide))), smallN, val_digs]
    rw [if_pos h, if_pos h, hs, Option.bind_some]
    generalize p.num.natAbs = n at *
    have b63 : bitsN n ≤ 63 ↔ n < 9223372036854775808 := bitsN_iff
    by_cases hb : bitsN n ≤ 63 ∧ n ≤ 1000
    · rw [if_pos hb.1, decide_eq_true hb.1, if_neg (by simp; omega), ref2One_eq, Option.bind_some]
      have := ref_fac_loop (n := n) (b := true) hb.2 999 2 FUEL rfl (by decide) (by decide) (.inr rfl) (Nat.lt_trans (show 999 < 1000 by decide) (by unfold FUEL; omega))
      rw [show digs (fac (2 - 1)) = [1] from one_digs] at this
      refine this.trans ?_
      rw [show ([1] : List Nat) = digs 1 from one_digs.symm, ref2Make_eq (Nat.le_trans (fac_len hb.2) (by omega)) (by rw [one_digs]; decide) (by decide), facR_res]
      rfl
    · have hbig : ¬ small (fac n) := fun hs => fac_gt (fac_small (by rw [b63] at hb; omega) hs)
      have : facR n = bad 8 := if_neg hbig
      rw [this]
      by_cases h1 : bitsN n ≤ 63
      · rw [if_pos h1, decide_eq_true h1, if_pos (by simp; omega)]
      · rw [decide_eq_false h1, if_pos (by simp)]
  · rw [if_neg h, if_neg h]
theorem ref_factorial_b {a : RT} (ha : okRB a = true) (h : rightR a = false) : ref02_Factorial a = some (bad 22) := by
  unfold ref02_Factorial; rw [ref2Right_eq ha, h]; rfl
end Go.FL
/-
  Plain laws, rat 18: powers of all numbers, of the program and of the reference.
-/
namespace Go.FL
open Go Go.Proofs

def oddL (m : Nat) : Bool := decide ((bits .and .u32 ((((digs m).getD 0 0 : Nat)) : Int) 1) = 1)
/-- What Power gives. -/
def powV (p q : Rat) : RT × Int :=
  if ¬ q.den = 1 then bad 3
  else if p = 0 ∧ q.num < 0 then bad 3
  else if q.num.natAbs = 0 then (ofQ 1, 0)
  else if p = 0 then (ofQ 0, 0)
  else if p.num.natAbs = 1 ∧ p.den = 1 then ((decide (p.num < 0) && oddL q.num.natAbs, [1], [1]), 0)
  else if pwOK p.num.natAbs q.num.natAbs 32 ∧ pwOK p.den q.num.natAbs 32 then
    (if q.num < 0 then ((decide (p.num < 0) && oddL q.num.natAbs, digs (p.den ^ q.num.natAbs), digs (p.num.natAbs ^ q.num.natAbs)), 0) else ((decide (p.num < 0) && oddL q.num.natAbs, digs (p.num.natAbs ^ q.num.natAbs), digs (p.den ^ q.num.natAbs)), 0))
  else bad 8
set_option exponentiation.threshold 2000 in
theorem pw_big {a m : Nat} (ha : 2 ≤ a) (hm : 1024 < m) : ¬ pwOK a m 32 := by
  unfold pwOK
  intro h
  have := val_lt (digs_ok (a ^ m))
  rw [val_digs] at this
  have h1 : a ^ m < 4294967296 ^ 32 := Nat.lt_of_lt_of_le this (Nat.pow_le_pow_right (by decide) h)
  have h2 : 2 ^ 1024 ≤ a ^ m := Nat.le_trans (Nat.pow_le_pow_left ha 1024) (Nat.pow_le_pow_right (by omega) (by omega))
  have h3 : (4294967296 : Nat) ^ 32 = 2 ^ 1024 := by rw [show (4294967296 : Nat) = 2 ^ 32 from rfl, ← Nat.pow_mul]
  omega
theorem rd_first {m : Nat} (h : m ≠ 0) : rd? (digs m) 0 = some ((digs m).getD 0 0) := by
  have : 0 < (digs m).length := List.length_pos_iff.2 (fun e => h (digs_nil_iff.1 e))
  unfold rd?
  rw [if_pos (by decide), List.getD_eq_getElem?_getD, show (0 : Int).toNat = 0 from rfl, List.getElem?_eq_getElem this]; rfl
theorem both_one {p : Rat} : p.num.natAbs = p.den ↔ (p.num.natAbs = 1 ∧ p.den = 1) := by
  constructor
  · intro h
    have := p.reduced
    unfold Nat.Coprime at this
    rw [h, Nat.gcd_self] at this
    exact ⟨by omega, this⟩
  · rintro ⟨h1, h2⟩; omega
theorem base_two {p : Rat} (h0 : p ≠ 0) (h : ¬ (p.num.natAbs = 1 ∧ p.den = 1)) : 2 ≤ p.num.natAbs ∨ 2 ≤ p.den := by
  have h1 : p.num ≠ 0 := fun e => h0 (Rat.num_eq_zero.1 e)
  have h2 := p.den_nz
  omega
theorem power_all {p q : Rat} (hp : fits p) (hq : fits q) : rat_Power (ofQ p) (ofQ q) = some (powV p q) := by
  unfold rat_Power powV
  have hqs : (ofQ q).1 = decide (q.num < 0) := rfl
  have hqn : (ofQ q).2.1 = digs q.num.natAbs := rfl
  have hps : (ofQ p).1 = decide (p.num < 0) := rfl
  have hpn : (ofQ p).2.1 = digs p.num.natAbs := rfl
  have hpd : (ofQ p).2.2 = digs p.den := rfl
  rw [ratAll2 (ofQ_okRB hp) (ofQ_okRB hq), two_right hp hq, Option.bind_some, if_pos rfl, isInt_q hq, Option.bind_some]
  simp only [num_zero]
  by_cases hd : q.den = 1
  · rw [if_neg (not_not_intro hd), decide_eq_true hd, Bool.not_true, Bool.false_or, hqs]
    by_cases h0 : p = 0 ∧ q.num < 0
    · rw [if_pos (by rw [decide_eq_true h0.1, decide_eq_true h0.2]; rfl), if_pos h0]
    · rw [if_neg (by simpa using h0), if_neg h0]
      by_cases hn : q.num.natAbs = 0
      · have hq0 : q = 0 := Rat.num_eq_zero.1 (by omega)
        rw [if_pos hq0, if_pos hn, ofInt_q (by decide) (by decide)]; rfl
      · have hq0 : ¬ q = 0 := fun e => hn (by rw [e]; rfl)
        rw [if_neg hq0, if_neg hn]
        by_cases hp0 : p = 0
        · rw [if_pos hp0, if_pos hp0, ofInt_q (by decide) (by decide)]; rfl
        · rw [if_neg hp0, if_neg hp0, hqn, rd_first hn, hps]
          have hz : (if decide (p.num < 0) = true then ((some ((digs q.num.natAbs).getD 0 0)).bind fun x6 => (some (decide ((bits .and .u32 ((x6 : Nat) : Int) 1) = 1)))) else (some false)) = some (decide (p.num < 0) && oddL q.num.natAbs) := by
            cases decide (p.num < 0) <;> rfl
          rw [hz, Option.bind_some, hpn, hpd, equal_digs (Nat.le_trans hp.1 (by decide)) (Nat.le_trans hp.2 (by decide)), Option.bind_some]
          by_cases h1 : p.num.natAbs = 1 ∧ p.den = 1
          · rw [if_pos (decide_eq_true (both_one.2 h1)), if_pos h1, ratOne_eq]; rfl
          · rw [if_neg (by simpa using mt both_one.1 h1), if_neg h1]
            have hsm : nSmall (digs q.num.natAbs) = some (((if bitsN q.num.natAbs ≤ 63 then q.num.natAbs else 0 : Nat) : Int), decide (bitsN q.num.natAbs ≤ 63)) := by
              unfold nSmall
              rw [if_pos (okL_digs (Nat.le_trans hq.1 (by decide))), smallN, val_digs]
            rw [hsm, Option.bind_some]
            have b63 : bitsN q.num.natAbs ≤ 63 ↔ q.num.natAbs < 9223372036854775808 := bitsN_iff
            by_cases hb : bitsN q.num.natAbs ≤ 63
            · have hpw : ∀ {a : Nat}, (digs a).length ≤ 32 → nPower (digs a) ((q.num.natAbs : Nat) : Int) 32 = some (digs (pwV a q.num.natAbs 32), decide (pwOK a q.num.natAbs 32)) := fun {a} ha => by
                unfold nPower
                rw [if_pos (by rw [okL_digs (Nat.le_trans ha (by decide)), Bool.true_and]; exact decide_eq_true ⟨by have := b63.1 hb; omega, by decide, by decide⟩), if_neg (by omega), val_digs]; rfl
              rw [if_pos hb, if_pos (decide_eq_true hb), hpw hp.1, Option.bind_some, hpw hp.2, Option.bind_some]
              by_cases hk : pwOK p.num.natAbs q.num.natAbs 32 ∧ pwOK p.den q.num.natAbs 32
              · rw [if_neg (by simp [hk.1, hk.2]), if_pos hk]
                unfold pwV
                rw [if_pos hk.1, if_pos hk.2]
                by_cases hs : q.num < 0
                · rw [if_pos (decide_eq_true hs), if_pos hs]
                · rw [if_neg (by simpa using hs), if_neg hs]
              · rw [if_neg hk, if_pos]
                rw [Bool.or_eq_true, Bool.not_eq_true', Bool.not_eq_true', decide_eq_false_iff_not, decide_eq_false_iff_not]
                exact Decidable.not_and_iff_or_not.1 hk
            · rw [decide_eq_false hb, if_neg (show ¬ (false = true) by decide), if_neg]
              rintro ⟨k1, k2⟩
              have hm : 1024 < q.num.natAbs := by rw [b63] at hb; omega
              rcases base_two hp0 h1 with h | h
              · exact pw_big h hm k1
              · exact pw_big h hm k2
  · rw [if_pos hd, if_pos (by rw [decide_eq_false hd]; rfl)]
theorem ref_power_b {a b : RT} (ha : okRB a = true) (hb : okRB b = true) (h : (rightR a && rightR b) = false) : ref02_Power a b = some (bad 22) := by
  unfold ref02_Power; rw [right2_eq ha hb, h]; rfl
theorem ref_power_all {p q : Rat} (hp : fits p) (hq : fits q) : ref02_Power (ofQ p) (ofQ q) = some (powV p q) := by
  unfold ref02_Power powV
  have hqs : (ofQ q).1 = decide (q.num < 0) := rfl
  have hqn : (ofQ q).2.1 = digs q.num.natAbs := rfl
  have hps : (ofQ p).1 = decide (p.num < 0) := rfl
  have hpn : (ofQ p).2.1 = digs p.num.natAbs := rfl
  have hpd : (ofQ p).2.2 = digs p.den := rfl
  rw [right2_eq (ofQ_okRB hp) (ofQ_okRB hq), two_right hp hq, if_neg (by decide), ref_isInt_eq (ofQ_okRB hq), isInt_q hq, Option.bind_some]
  simp only [num_zero]
  by_cases hd : q.den = 1
  · rw [if_neg (not_not_intro hd), if_pos (decide_eq_true hd), hqs]
    by_cases hn : q.num.natAbs = 0
    · have hq0 : q = 0 := Rat.num_eq_zero.1 (by omega)
      rw [if_pos hq0, if_neg (fun h => by omega), if_pos hn, ref_ofInt_q (by decide) (by decide)]; rfl
    · have hq0 : ¬ q = 0 := fun e => hn (by rw [e]; rfl)
      rw [if_neg hq0]
      by_cases h0 : p = 0 ∧ q.num < 0
      · rw [if_pos (by rw [decide_eq_true h0.1, decide_eq_true h0.2]; rfl), if_pos h0]
      · rw [if_neg (by simpa using h0), if_neg h0, if_neg hn]
        by_cases hp0 : p = 0
        · rw [if_pos hp0, if_pos hp0, ref2Zero_eq]; rfl
        · have same1 : ∀ {a : Nat}, (digs a).length ≤ 32 → r1Same (digs a) [1] = some (decide (a = 1)) := fun {a} ha => by
            unfold r1Same
            rw [if_pos (Nat.le_trans ha (by decide)), ← one_digs]
            congr 1
            exact decide_eq_decide.2 ⟨digs_inj, fun h => by rw [h]⟩
          rw [if_neg hp0, if_neg hp0, hqn, rd_first hn, Option.bind_some, ref2One_eq, Option.bind_some, hpn, hpd, same1 hp.1, Option.bind_some, Option.bind_some, same1 hp.2, Option.bind_some, Option.bind_some, Option.bind_some, hps]
          by_cases h1 : p.num.natAbs = 1 ∧ p.den = 1
          · rw [if_pos (decide_eq_true h1.1), Option.bind_some, if_pos (decide_eq_true h1.2), if_pos h1]; rfl
          · have hz : (if decide (p.num.natAbs = 1) = true then some (decide (p.den = 1)) else some false) = some false := by
              by_cases hh : p.num.natAbs = 1
              · rw [if_pos (decide_eq_true hh), decide_eq_false (fun h => h1 ⟨hh, h⟩)]
              · rw [if_neg (by simpa using hh)]
            have hsm : r1Small (digs q.num.natAbs) = some (((if bitsN q.num.natAbs ≤ 63 then q.num.natAbs else 0 : Nat) : Int), decide (bitsN q.num.natAbs ≤ 63)) := by
              unfold r1Small
              rw [if_pos (okL_digs (Nat.le_trans hq.1 (by decide))), smallN, val_digs]
            rw [hz, Option.bind_some, if_neg (by decide), hsm, Option.bind_some, if_neg h1]
            have b63 : bitsN q.num.natAbs ≤ 63 ↔ q.num.natAbs < 9223372036854775808 := bitsN_iff
            by_cases hb : bitsN q.num.natAbs ≤ 63 ∧ q.num.natAbs ≤ 1024
            · have hpw : ∀ {a : Nat}, (digs a).length ≤ 32 → r1Power (digs a) ((q.num.natAbs : Nat) : Int) 32 = some (digs (pwV a q.num.natAbs 32), decide (pwOK a q.num.natAbs 32)) := fun {a} ha => by
                unfold r1Power
                rw [if_pos (by rw [okL_digs (Nat.le_trans ha (by decide)), Bool.true_and]; exact decide_eq_true ⟨by omega, by omega, by decide, by decide⟩), val_digs]; rfl
              rw [if_pos hb.1, if_neg (by simp [hb.1]; omega), hpw hp.1, Option.bind_some, hpw hp.2, Option.bind_some]
              by_cases hk : pwOK p.num.natAbs q.num.natAbs 32 ∧ pwOK p.den q.num.natAbs 32
              · rw [if_neg (by simp [hk.1, hk.2]), if_pos hk]
                unfold pwV
                rw [if_pos hk.1, if_pos hk.2]
                by_cases hs : q.num < 0
                · rw [if_pos (decide_eq_true hs), if_pos hs]; rfl
                · rw [if_neg (by simpa using hs), if_neg hs]; rfl
              · rw [if_neg hk, if_pos]
                rw [Bool.or_eq_true, Bool.not_eq_true', Bool.not_eq_true', decide_eq_false_iff_not, decide_eq_false_iff_not]
                exact Decidable.not_and_iff_or_not.1 hk
            · have hm : 1024 < q.num.natAbs := by rw [b63] at hb; omega
              rw [if_neg (show ¬ (pwOK p.num.natAbs q.num.natAbs 32 ∧ pwOK p.den q.num.natAbs 32) from fun ⟨k1, k2⟩ => by
                rcases base_two hp0 h1 with h | h
                · exact pw_big h hm k1
                · exact pw_big h hm k2), if_pos]
              by_cases h2 : bitsN q.num.natAbs ≤ 63
              · rw [if_pos h2]; simp; omega
              · simp [h2]
  · rw [if_pos hd, if_neg (by simpa using hd)]
end Go.FL
/-
  GP: the law RatFunctions.
-/
namespace Go.FL
open Go Go.Proofs

def law02_RatFunctions (a0 : RT) (a1 : RT) : Option (Bool) := ((rat_Residue a0 a1).bind fun x1 => ((ref02_Residue a0 a1).bind fun x2 => (law02_live.bind fun x3 => (Option.bind ((if x3 = true then ((law02_same x1.1 x1.2 x2.1 x2.2).bind fun x5 => (some (!x5))) else (some true)) : Option (Bool)) fun (z3 : Bool) => (if z3 = true then (some (false)) else ((rat_Power a0 a1).bind fun x6 => ((ref02_Power a0 a1).bind fun x7 => ((law02_same x6.1 x6.2 x7.1 x7.2).bind fun x8 => (if x8 = true then ((rat_Factorial a0).bind fun x9 => ((ref02_Factorial a0).bind fun x10 => ((law02_same x9.1 x9.2 x10.1 x10.2).bind fun x11 => (if x11 = true then ((rat_Binomial a0 a1).bind fun x12 => ((ref02_Binomial a0 a1).bind fun x13 => ((law02_same x12.1 x12.2 x13.1 x13.2).bind fun x14 => (some (x14))))) else (some (false)))))) else (some (false)))))))))))
theorem law02_RatFunctions_ok {a0 : RT} {a1 : RT} {r : Bool} (h : law02_RatFunctions a0 a1 = some r) :
    Fn Tryz.prog 3 [.ag [.b a0.1, .sl (L a0.2.1), .sl (L a0.2.2)], .ag [.b a1.1, .sl (L a1.2.1), .sl (L a1.2.2)]] (.d (.b r)) := by
  unfold law02_RatFunctions at h
  refine Fn.of (rs := [.tmp 4]) (nt := 82) Tryz.func3 rfl rfl rfl (by simp) rfl ?_
  refine .seq ?_
  refine .region ?_
  refine vk (vbx) ?_
  refine vk (vbx) ?_
  refine asd ?_
  refine rn ?_
  refine .gh (Gh.keep [2, 3, 4] rfl) ?_
  refine .seq ?_
  refine .region ?_
  refine vk (vlda gA_R gS_R) ?_
  refine vk (vlda gA_R gS_R) ?_
  obtain ⟨x1, hx1, h⟩ := bnd h
  refine vk (VOK.tupd (vs := [.ag [.b x1.1.1, .sl (L x1.1.2.1), .sl (L x1.1.2.2)], .i .i64 x1.2]) (vcl0 (rat_Residue_ok hx1) Tryz.call4)) ?_
  refine vk (vmvd) ?_
  refine vk (vex) ?_
  refine vk (vex) ?_
  refine vk (van (zero_of gI_R) gZ_R) ?_
  refine stn ?_ gS_R (by decide)
  refine asd ?_
  refine rn ?_
  refine .gh (Gh.keep [2, 3, 4, 5, 6] rfl) ?_
  refine .seq ?_
  refine .region ?_
  refine vk (vlda gA_R gS_R) ?_
  refine vk (vlda gA_R gS_R) ?_
  obtain ⟨x2, hx2, h⟩ := bnd h
  refine vk (VOK.tupd (vs := [.ag [.b x2.1.1, .sl (L x2.1.2.1), .sl (L x2.1.2.2)], .i .i64 x2.2]) (vcl0 (ref02_Residue_ok hx2) Tryz.call5)) ?_
  refine vk (vmvd) ?_
  refine vk (vex) ?_
  refine vk (vex) ?_
  refine vk (van (zero_of gI_R) gZ_R) ?_
  refine stn ?_ gS_R (by decide)
  refine asd ?_
  refine rn ?_
  refine .gh (Gh.keep [2, 3, 4, 5, 6, 7, 8] rfl) ?_
  refine .seq ?_
  refine .seq ?_
  obtain ⟨x3, hx3, h⟩ := bnd h
  obtain ⟨z3, hz, h⟩ := bnd h
  refine AW.mr (σ := Unit) (fun _ => True) (fun _ => [(2, .d (.ptr [.b a0.1, .sl (L a0.2.1), .sl (L a0.2.2)])), (3, .d (.ptr [.b a1.1, .sl (L a1.2.1), .sl (L a1.2.2)])), (4, .d (.b false)), (5, .nb [.b x1.1.1, .sl (L x1.1.2.1), .sl (L x1.1.2.2)]), (7, .nb [.b x2.1.1, .sl (L x2.1.2.1), .sl (L x2.1.2.2)]), (30, .d (.b z3))]) (fun _ => []) ?_ ?_
  · skip
    refine .region ?_
    refine vk (vcl0 (law02_live_ok hx3) Tryz.call6) ?_
    refine vk (vnt) ?_
    by_cases hc : x3 = true
    · replace hz := ite_t hc hz
      have hb0 : (!x3) = false := (ntf hc)
      refine vk (VOK.lit (vmvd) hb0) ?_
      refine vk (vldn gA_R gS_R) ?_
      refine vk (vmvd) ?_
      refine vk (vldn gA_R gS_R) ?_
      refine vk (vmvd) ?_
      obtain ⟨x5, hx5, hz⟩ := bnd hz
      refine vk (vcl0 (law02_same_ok hx5) Tryz.call7) ?_
      refine vk (vnt) ?_
      refine vk (vpkd) ?_
      refine RL.gh (Gh.keep [2, 3, 4, 5, 7, 30] rfl) ?_
      refine .nil ?_
      cases hz
      exact jr () trivial
    replace hz := ite_f hc hz
    have hb0 : (!x3) = true := (ntt (bf hc))
    refine vk (VOK.lit (vmvd) hb0) ?_
    refine gf ?_
    refine gf ?_
    refine gf ?_
    refine gf ?_
    refine gf ?_
    refine gf ?_
    refine vk (vpkd) ?_
    refine RL.gh (Gh.keep [2, 3, 4, 5, 7, 30] rfl) ?_
    refine .nil ?_
    cases hz
    exact jr () trivial
  rintro _ _
  by_cases hc : z3 = true
  · replace h := ite_t hc h
    refine cnt hc ?_
    refine .seq ?_
    refine .region ?_
    refine asd ?_
    refine rn ?_
    refine .gh (Gh.keep [2, 3, 4, 5, 7] rfl) ?_
    refine .ret ?_
    cases h
    exact ⟨rfl, rfl⟩
  replace h := ite_f hc h
  refine cnf (bf hc) ?_
  refine .skip ?_
  show AW _ _ _ _ _ _
  refine .seq ?_
  refine .region ?_
  refine vk (vlda gA_R gS_R) ?_
  refine vk (vlda gA_R gS_R) ?_
  obtain ⟨x6, hx6, h⟩ := bnd h
  refine vk (VOK.tupd (vs := [.ag [.b x6.1.1, .sl (L x6.1.2.1), .sl (L x6.1.2.2)], .i .i64 x6.2]) (vcl0 (rat_Power_ok hx6) Tryz.call8)) ?_
  refine vk (vmvd) ?_
  refine vk (vex) ?_
  refine vk (vex) ?_
  refine stn ?_ gS_R (by decide)
  refine asd ?_
  refine rn ?_
  refine .gh (Gh.keep [2, 3, 4, 5, 6, 7] rfl) ?_
  refine .seq ?_
  refine .region ?_
  refine vk (vlda gA_R gS_R) ?_
  refine vk (vlda gA_R gS_R) ?_
  obtain ⟨x7, hx7, h⟩ := bnd h
  refine vk (VOK.tupd (vs := [.ag [.b x7.1.1, .sl (L x7.1.2.1), .sl (L x7.1.2.2)], .i .i64 x7.2]) (vcl0 (ref02_Power_ok hx7) Tryz.call9)) ?_
  refine vk (vmvd) ?_
  refine vk (vex) ?_
  refine vk (vex) ?_
  refine stn ?_ gS_R (by decide)
  refine asd ?_
  refine rn ?_
  refine .gh (Gh.keep [2, 3, 4, 5, 6, 7, 8] rfl) ?_
  refine .seq ?_
  refine .seq ?_
  refine .region ?_
  refine vk (vldn gA_R gS_R) ?_
  refine vk (vmvd) ?_
  refine vk (vldn gA_R gS_R) ?_
  refine vk (vmvd) ?_
  obtain ⟨x8, hx8, h⟩ := bnd h
  refine vk (vcl0 (law02_same_ok hx8) Tryz.call7) ?_
  refine vk (vnt) ?_
  refine rn ?_
  refine .gh (Gh.keep [2, 3, 4, 5, 7, 48] rfl) ?_
  by_cases hc : x8 = true
  · replace h := ite_t hc h
    refine cnf (ntf hc) ?_
    refine .skip ?_
    show AW _ _ _ _ _ _
    refine .seq ?_
    refine .region ?_
    refine vk (vlda gA_R gS_R) ?_
    obtain ⟨x9, hx9, h⟩ := bnd h
    refine vk (VOK.tupd (vs := [.ag [.b x9.1.1, .sl (L x9.1.2.1), .sl (L x9.1.2.2)], .i .i64 x9.2]) (vcl0 (rat_Factorial_ok hx9) Tryz.call10)) ?_
    refine vk (vmvd) ?_
    refine vk (vex) ?_
    refine vk (vex) ?_
    refine stn ?_ gS_R (by decide)
    refine asd ?_
    refine rn ?_
    refine .gh (Gh.keep [2, 3, 4, 5, 6, 7] rfl) ?_
    refine .seq ?_
    refine .region ?_
    refine vk (vlda gA_R gS_R) ?_
    obtain ⟨x10, hx10, h⟩ := bnd h
    refine vk (VOK.tupd (vs := [.ag [.b x10.1.1, .sl (L x10.1.2.1), .sl (L x10.1.2.2)], .i .i64 x10.2]) (vcl0 (ref02_Factorial_ok hx10) Tryz.call11)) ?_
    refine vk (vmvd) ?_
    refine vk (vex) ?_
    refine vk (vex) ?_
    refine stn ?_ gS_R (by decide)
    refine asd ?_
    refine rn ?_
    refine .gh (Gh.keep [2, 3, 4, 5, 6, 7, 8] rfl) ?_
    refine .seq ?_
    refine .seq ?_
    refine .region ?_
    refine vk (vldn gA_R gS_R) ?_
    refine vk (vmvd) ?_
    refine vk (vldn gA_R gS_R) ?_
    refine vk (vmvd) ?_
    obtain ⟨x11, hx11, h⟩ := bnd h
    refine vk (vcl0 (law02_same_ok hx11) Tryz.call7) ?_
    refine vk (vnt) ?_
    refine rn ?_
    refine .gh (Gh.keep [2, 3, 4, 5, 7, 64] rfl) ?_
    by_cases hc : x11 = true
    · replace h := ite_t hc h
      refine cnf (ntf hc) ?_
      refine .skip ?_
      show AW _ _ _ _ _ _
      refine .seq ?_
      refine .region ?_
      refine vk (vlda gA_R gS_R) ?_
      refine vk (vlda gA_R gS_R) ?_
      obtain ⟨x12, hx12, h⟩ := bnd h
      refine vk (VOK.tupd (vs := [.ag [.b x12.1.1, .sl (L x12.1.2.1), .sl (L x12.1.2.2)], .i .i64 x12.2]) (vcl0 (rat_Binomial_ok hx12) Tryz.call12)) ?_
      refine vk (vmvd) ?_
      refine vk (vex) ?_
      refine vk (vex) ?_
      refine stn ?_ gS_R (by decide)
      refine asd ?_
      refine rn ?_
      refine .gh (Gh.keep [2, 3, 4, 5, 6, 7] rfl) ?_
      refine .seq ?_
      refine .region ?_
      refine vk (vlda gA_R gS_R) ?_
      refine vk (vlda gA_R gS_R) ?_
      obtain ⟨x13, hx13, h⟩ := bnd h
      refine vk (VOK.tupd (vs := [.ag [.b x13.1.1, .sl (L x13.1.2.1), .sl (L x13.1.2.2)], .i .i64 x13.2]) (vcl0 (ref02_Binomial_ok hx13) Tryz.call13)) ?_
      refine vk (vmvd) ?_
      refine vk (vex) ?_
      refine vk (vex) ?_
      refine stn ?_ gS_R (by decide)
      refine asd ?_
      refine rn ?_
      refine .gh (Gh.keep [4, 5, 6, 7, 8] rfl) ?_
      refine .seq ?_
      refine .region ?_
      refine vk (vldn gA_R gS_R) ?_
      refine vk (vmvd) ?_
      refine vk (vldn gA_R gS_R) ?_
      refine vk (vmvd) ?_
      obtain ⟨x14, hx14, h⟩ := bnd h
      refine vk (vcl0 (law02_same_ok hx14) Tryz.call7) ?_
      refine asd ?_
      refine rn ?_
      refine .gh (Gh.keep [4] rfl) ?_
      refine .ret ?_
      cases h
      exact ⟨rfl, rfl⟩
    replace h := ite_f hc h
    refine cnt (ntt (bf hc)) ?_
    refine .seq ?_
    refine .region ?_
    refine asd ?_
    refine rn ?_
    refine .gh (Gh.keep [2, 3, 4, 5, 7] rfl) ?_
    refine .ret ?_
    cases h
    exact ⟨rfl, rfl⟩
  replace h := ite_f hc h
  refine cnt (ntt (bf hc)) ?_
  refine .seq ?_
  refine .region ?_
  refine asd ?_
  refine rn ?_
  refine .gh (Gh.keep [2, 3, 4, 5, 7] rfl) ?_
  refine .ret ?_
  cases h
  exact ⟨rfl, rfl⟩
end Go.FL
/-
  Plain laws, rat 19: ways to choose, of all numbers; RatFunctions.
-/
namespace Go.FL
open Go Go.Proofs

theorem ch_mono1 : ∀ (n k : Nat), ch n k ≤ ch (n + 1) k
  | n, 0 => by rw [ch_zero, ch_zero]; exact Nat.le_refl _
  | n, k + 1 => by rw [ch]; omega
theorem ch_two : ∀ (j n : Nat), 2 * j ≤ n → 2 ^ j ≤ ch n j
  | 0, n, _ => by rw [ch_zero]; decide
  | j + 1, n, h => by
    obtain ⟨m, rfl⟩ : ∃ m, n = m + 2 := ⟨n - 2, by omega⟩
    have ih := ch_two j m (by omega)
    have h1 := ch_mono1 m j
    have h2 : ch (m + 2) (j + 1) = ch (m + 1) j + ch (m + 1) (j + 1) := rfl
    have h3 : ch (m + 1) (j + 1) = ch m j + ch m (j + 1) := rfl
    rw [Nat.pow_succ]; omega
theorem ch_up {n j : Nat} (h : 2 * (j + 1) ≤ n) : ch n j ≤ ch n (j + 1) := by
  have h1 := ch_step n j
  have h2 : (ch n j : Int) * (j + 1) ≤ ch n j * ((n : Int) - j) := Int.mul_le_mul_of_nonneg_left (by omega) (by omega)
  rw [← h1] at h2
  have h3 : ((ch n j * (j + 1) : Nat) : Int) ≤ ((ch n (j + 1) * (j + 1) : Nat) : Int) := by push_cast; exact h2
  exact Nat.le_of_mul_le_mul_right (Int.ofNat_le.1 h3) (by omega)
theorem ch_chain {n M : Nat} (hM : 2 * M ≤ n) : ∀ d j, j + d = M → ch n j ≤ ch n M
  | 0, j, h => by rw [show j = M by omega]; exact Nat.le_refl _
  | d + 1, j, h => Nat.le_trans (ch_up (by omega)) (ch_chain hM d (j + 1) (by omega))
def binV (n M : Nat) : RT × Int := if small (ch n M) then ((false, digs (ch n M), [1]), 0) else bad 8
theorem binV_bad {n M j : Nat} (hM : 2 * M ≤ n) (hj : j ≤ M) (h : ¬ small (ch n j)) : binV n M = bad 8 :=
  if_neg fun hs => h (Nat.le_trans (digs_mono (ch_chain hM (M - j) j (by omega))) hs)
set_option exponentiation.threshold 2000 in
theorem ch_few {n j : Nat} (hj : 2 * j ≤ n) (h : small (ch n j)) : j ≤ 1024 := by
  have h1 := ch_two j n hj
  have h2 := small_lt h
  have h3 : (4294967296 : Nat) ^ 32 = 2 ^ 1024 := by rw [show (4294967296 : Nat) = 2 ^ 32 from rfl, ← Nat.pow_mul]
  rw [h3] at h2
  have := (Nat.pow_lt_pow_iff_right (a := 2) (by decide)).1 (Nat.lt_of_le_of_lt h1 h2)
  omega
theorem add_one_len {a k : Nat} (ha : (digs a).length ≤ k) : (digs (a + 1)).length ≤ k + 1 := by
  have h1 := val_lt (digs_ok a)
  rw [val_digs] at h1
  have h3 : a < 4294967296 ^ k := Nat.lt_of_lt_of_le h1 (Nat.pow_le_pow_right (by decide) ha)
  exact digs_len (by rw [Nat.pow_succ]; omega)
theorem bin_loop {a : RT} {n M : Nat} (ha : a.2.1 = digs n) (hn : (digs n).length ≤ 32) (hM : 2 * M ≤ n) (hMl : (digs M).length ≤ 32) : ∀ (d j k : Nat) (s : RT) (e : Int), d = 1100 - j → 1 ≤ j → j ≤ M + 1 → small (ch n (j - 1)) → d < k →
    rat_Binomial_l1 a (digs M) k s e (digs (ch n (j - 1))) (digs j) = some (binV n M)
  | 0, j, k, s, e, h1, h2, h3, h4, h5 => by
    have := ch_few (n := n) (j := j - 1) (by omega) h4
    omega
  | d + 1, j, k, s, e, h1, h2, h3, h4, h5 => by
    obtain ⟨k, rfl⟩ : ∃ m, k = m + 1 := ⟨k - 1, by omega⟩
    have h4' : (digs (ch n (j - 1))).length ≤ 32 := h4
    rw [rat_Binomial_l1, nCompare_eq (few (by omega) _) (Nat.le_trans hMl (by decide)), Option.bind_some]
    by_cases hj : j ≤ M
    · have hm : minN (n + 1) j = n + 1 - j := if_pos (by omega)
      have hl1 : (digs (n + 1)).length ≤ 33 := add_one_len hn
      have hl2 : (digs (n + 1 - j)).length ≤ 33 := Nat.le_trans (digs_mono (by omega)) hl1
      have hl3 : (digs (ch n (j - 1) * (n + 1 - j))).length ≤ 2 * 33 := len2 (by omega) hl2
      rw [if_pos (cmpN_le.2 hj), ratOne_eq, Option.bind_some, ha, sum_one (by omega), Option.bind_some, minus_eq (by omega) (few (by omega) _), Option.bind_some, hm, prod2 (by omega) (by omega), Option.bind_some,
        divMod_eq (by omega) (few (by omega) _) (by omega), Option.bind_some, ch_div h2 (by omega)]
      by_cases hs : small (ch n j)
      · have hs' : (digs (ch n j)).length ≤ 32 := hs
        rw [if_neg (show ¬ (32 : Int) < ((digs (ch n j)).length : Nat) by omega), Option.bind_some, sum_one (few (by omega) _), Option.bind_some]
        exact bin_loop ha hn hM hMl d (j + 1) k s e (by omega) (by omega) (by omega) hs (by omega)
      · have hs' : ¬ (digs (ch n j)).length ≤ 32 := hs
        rw [if_pos (show (32 : Int) < ((digs (ch n j)).length : Nat) by omega), binV_bad hM hj hs]
    · have hjM : j - 1 = M := by omega
      rw [if_neg (mt cmpN_le.1 hj), ratOne_eq, Option.bind_some, hjM]
      rw [hjM] at h4
      unfold binV
      rw [if_pos h4]
theorem l1_l3 (x : List Nat × Bool) (K : RT → Int → List Nat → Option (RT × Int)) : ∀ (k : Nat) (s : RT) (e : Int) (a b c : List Nat), ref02_Binomial_l1 x K k s e a b c = ref02_Binomial_l3 (false, x.1, []) K k s e a b c
  | 0, _, _, _, _, _ => rfl
  | k + 1, s, e, a, b, c => by simp only [ref02_Binomial_l1, ref02_Binomial_l3, l1_l3 x K k]
theorem ch_div2 {n j : Nat} (h : j + 1 ≤ n) : ch n j * (n - j) / (j + 1) = ch n (j + 1) := by
  have := ch_div (n := n) (j := j + 1) (by omega) h
  rwa [Nat.add_sub_cancel, show n + 1 - (j + 1) = n - j by omega] at this
theorem ref_bin_loop {a : RT} {K : RT → Int → List Nat → Option (RT × Int)} {n M : Nat} (ha : a.2.1 = digs M) (hn : (digs n).length ≤ 32) (hM : 2 * M ≤ n) (hMl : (digs M).length ≤ 32) (hK : small (ch n M) → K (false, [], []) 0 (digs (ch n M)) = some (binV n M)) :
    ∀ (d j k : Nat), d = 1100 - j → j ≤ M → small (ch n j) → d < k → ref02_Binomial_l3 a K k (false, [], []) 0 (digs (ch n j)) (digs j) (digs (n - j)) = some (binV n M)
  | 0, j, k, h1, h3, h4, h5 => by
    have := ch_few (n := n) (j := j) (by omega) h4
    omega
  | d + 1, j, k, h1, h3, h4, h5 => by
    obtain ⟨k, rfl⟩ : ∃ m, k = m + 1 := ⟨k - 1, by omega⟩
    have h4' : (digs (ch n j)).length ≤ 32 := h4
    rw [ref02_Binomial_l3, ha, r1Compare_eq (few (by omega) _) (Nat.le_trans hMl (by decide)), Option.bind_some]
    by_cases hj : j < M
    · have hl2 : (digs (n - j)).length ≤ 32 := Nat.le_trans (digs_mono (by omega)) hn
      have hl3 : (digs (ch n j * (n - j))).length ≤ 2 * 32 := len2 h4' hl2
      have hm : minN (n - j) 1 = n - (j + 1) := by unfold minN; rw [if_pos (by omega)]; omega
      rw [if_pos (cmpN_lt.2 hj), ref2One_eq, Option.bind_some, ← one_digs, r1Add_eq (few (by omega) _) (few (by decide) _), Option.bind_some, r1Mul_eq (by omega) (by omega), Option.bind_some,
        r1DivMod_eq (by omega) (few (by omega) _) (by omega), Option.bind_some, Option.bind_some, r1Minus_eq (by omega) (few (by decide) _), Option.bind_some, hm, ch_div2 (by omega)]
      by_cases hs : small (ch n (j + 1))
      · have hs' : (digs (ch n (j + 1))).length ≤ 32 := hs
        rw [if_neg (show ¬ (32 : Int) < ((digs (ch n (j + 1))).length : Nat) by omega)]
        exact ref_bin_loop ha hn hM hMl hK d (j + 1) k (by omega) (by omega) hs (by omega)
      · have hs' : ¬ (digs (ch n (j + 1))).length ≤ 32 := hs
        rw [if_pos (show (32 : Int) < ((digs (ch n (j + 1))).length : Nat) by omega), binV_bad hM (show j + 1 ≤ M by omega) hs]
    · have hjM : j = M := by omega
      subst hjM
      rw [if_neg (mt cmpN_lt.1 hj)]
      exact hK h4
/-- What Binomial gives. -/
def binR (p q : Rat) : RT × Int :=
  if wholeR p = true ∧ wholeR q = true then (if p.num.natAbs ≤ q.num.natAbs then binV q.num.natAbs (if q.num.natAbs - p.num.natAbs < p.num.natAbs then q.num.natAbs - p.num.natAbs else p.num.natAbs) else (ofQ 0, 0)) else bad 3
theorem binomial_b {a b : RT} (ha : okRB a = true) (hb : okRB b = true) (h : (rightR a && rightR b) = false) : rat_Binomial a b = some (bad 22) := by
  unfold rat_Binomial; rw [ratAll2 ha hb, h]; rfl
theorem ref_binomial_b {a b : RT} (ha : okRB a = true) (hb : okRB b = true) (h : (rightR a && rightR b) = false) : ref02_Binomial a b = some (bad 22) := by
  unfold ref02_Binomial; rw [right2_eq ha hb, h]; rfl
theorem fuel_1100 : 1100 < FUEL := by unfold FUEL; omega
theorem binomial_all {p q : Rat} (hp : fits p) (hq : fits q) : rat_Binomial (ofQ p) (ofQ q) = some (binR p q) := by
  unfold rat_Binomial binR
  have hpn : (ofQ p).2.1 = digs p.num.natAbs := rfl
  have hqn : (ofQ q).2.1 = digs q.num.natAbs := rfl
  rw [ratAll2 (ofQ_okRB hp) (ofQ_okRB hq), two_right hp hq, Option.bind_some, if_pos rfl, natural_eq hp, Option.bind_some, natural_eq hq]
  have hpl : (digs p.num.natAbs).length ≤ 32 := hp.1
  have hql : (digs q.num.natAbs).length ≤ 32 := hq.1
  by_cases hw : wholeR p = true ∧ wholeR q = true
  · rw [if_pos hw, if_pos hw.1, Option.bind_some, hw.2, Option.bind_some, if_neg (by decide), hpn, hqn]
    have start : ∀ M, 2 * M ≤ q.num.natAbs → (ratOne.bind fun x9 => (ratOne.bind fun x10 => (rat_Binomial_l1 (ofQ q) (digs M) FUEL (false, [], []) 0 x9 x10))) = some (binV q.num.natAbs M) := fun M hM => by
      have := bin_loop (a := ofQ q) (n := q.num.natAbs) (M := M) rfl hql hM (Nat.le_trans (digs_mono (by omega)) hql) 1099 1 FUEL (false, [], []) 0 rfl (by decide) (by omega) (by rw [Nat.sub_self, ch_zero]; exact fits_one.1) (Nat.lt_trans (by decide) fuel_1100)
      rw [Nat.sub_self, ch_zero, one_digs] at this
      rw [ratOne_eq, Option.bind_some, Option.bind_some]
      exact this
    generalize p.num.natAbs = m at *
    generalize q.num.natAbs = n at *
    rw [minus_eq (by omega) (by omega), Option.bind_some, jn_eq]
    by_cases h : m ≤ n
    · have hmin : minN n m = n - m := if_pos h
      have hl : (digs (n - m)).length ≤ 32 := Nat.le_trans (digs_mono (by omega)) hql
      rw [if_pos (decide_eq_true h), if_pos h, hmin, nCompare_eq (by omega) (by omega), Option.bind_some]
      by_cases h2 : n - m < m
      · rw [if_pos (cmpN_lt.2 h2), if_pos h2]; exact start _ (by omega)
      · rw [if_neg (mt cmpN_lt.1 h2), if_neg h2]; exact start _ (by omega)
    · rw [if_neg (by simpa using h), if_neg h, ofInt_q (by decide) (by decide)]; rfl
  · have hz : (if wholeR p = true then ((some (wholeR q)).bind fun x4 => (some (!x4))) else (some true)) = some true := by
      by_cases h1 : wholeR p = true
      · rw [if_pos h1]
        have : wholeR q = false := by cases hh : wholeR q with
          | false => rfl
          | true => exact absurd ⟨h1, hh⟩ hw
        rw [this]; rfl
      · rw [if_neg h1]
    rw [hz, Option.bind_some, if_pos rfl, if_neg hw]
theorem ref_binomial_all {p q : Rat} (hp : fits p) (hq : fits q) : ref02_Binomial (ofQ p) (ofQ q) = some (binR p q) := by
  unfold ref02_Binomial binR
  have hpn : (ofQ p).2.1 = digs p.num.natAbs := rfl
  have hqn : (ofQ q).2.1 = digs q.num.natAbs := rfl
  have hpl : (digs p.num.natAbs).length ≤ 32 := hp.1
  have hql : (digs q.num.natAbs).length ≤ 32 := hq.1
  rw [right2_eq (ofQ_okRB hp) (ofQ_okRB hq), two_right hp hq, if_neg (by decide), ref_whole_eq hp, Option.bind_some, ref_whole_eq hq]
  by_cases hw : wholeR p = true ∧ wholeR q = true
  · rw [if_pos hw, if_pos hw.1, Option.bind_some, hw.2, Option.bind_some, if_neg (by decide), hqn, hpn]
    have fin : ∀ M, small (ch q.num.natAbs M) → ((ref2One.bind fun x43 => ((ref2Make false (digs (ch q.num.natAbs M)) x43).bind fun x44 => (some (x44.1, x44.2)))) : Option (RT × Int)) = some (binV q.num.natAbs M) := fun M hs => by
      have hs' : (digs (ch q.num.natAbs M)).length ≤ 32 := hs
      rw [ref2One_eq, Option.bind_some, ← one_digs, ref2Make_eq (by omega) (by rw [one_digs]; decide) (by decide), facR_res]; rfl
    have start : ∀ (x : List Nat) (M : Nat), x = digs M → 2 * M ≤ q.num.natAbs → (ref2One.bind fun x27 => (jn (fun (z28 : RT) (z29 : Int) (z30 : (List Nat)) => (ref2One.bind fun x43 => ((ref2Make false z30 x43).bind fun x44 => (some (x44.1, x44.2))))) fun K2 => (ref02_Binomial_l3 (false, x, []) K2 FUEL (false, [], []) 0 x27 [] (digs q.num.natAbs)))) = some (binV q.num.natAbs M) := fun x M hx hM => by
      rw [ref2One_eq, Option.bind_some, jn_eq]
      have := ref_bin_loop (a := (false, x, [])) (K := fun (z28 : RT) (z29 : Int) (z30 : (List Nat)) => (ref2One.bind fun x43 => ((ref2Make false z30 x43).bind fun x44 => (some (x44.1, x44.2))))) (n := q.num.natAbs) (M := M) hx hql hM (Nat.le_trans (digs_mono (by omega)) hql) (fin M) 1100 0 FUEL rfl (by omega) (by rw [ch_zero]; exact fits_one.1) fuel_1100
      rw [ch_zero, one_digs, Nat.sub_zero, show digs 0 = [] from digs_nil_iff.2 rfl] at this
      rw [ref2One_eq] at this
      exact this
    have l3_a : ∀ (K : RT → Int → List Nat → Option (RT × Int)) (k : Nat) (s : RT) (e : Int) (a b c : List Nat), ref02_Binomial_l3 (ofQ p) K k s e a b c = ref02_Binomial_l3 (false, digs p.num.natAbs, []) K k s e a b c := by
      intro K k
      induction k with
      | zero => intros; rfl
      | succ k ih => intro s e a b c; simp only [ref02_Binomial_l3, ih]; rfl
    rw [r1Minus_eq (by omega) (by omega), Option.bind_some]
    by_cases h : p.num.natAbs ≤ q.num.natAbs
    · have hmin : minN q.num.natAbs p.num.natAbs = q.num.natAbs - p.num.natAbs := if_pos h
      have hl : (digs (q.num.natAbs - p.num.natAbs)).length ≤ 32 := Nat.le_trans (digs_mono (by omega)) hql
      rw [if_pos (decide_eq_true h), if_pos h, hmin, r1Compare_eq (by omega) (by omega), Option.bind_some]
      by_cases h2 : q.num.natAbs - p.num.natAbs < p.num.natAbs
      · rw [if_pos (cmpN_lt.2 h2), if_pos h2]
        simp only [l1_l3]
        exact start _ _ rfl (by omega)
      · rw [if_neg (mt cmpN_lt.1 h2), if_neg h2]
        simp only [l3_a]
        exact start _ _ rfl (by omega)
    · rw [if_neg (by simpa using h), if_neg h, ref2Zero_eq]; rfl
  · have hz : (if wholeR p = true then ((some (wholeR q)).bind fun x4 => (some (!x4))) else (some true)) = some true := by
      by_cases h1 : wholeR p = true
      · rw [if_pos h1]
        have : wholeR q = false := by cases hh : wholeR q with
          | false => rfl
          | true => exact absurd ⟨h1, hh⟩ hw
        rw [this]; rfl
      · rw [if_neg h1]
    rw [hz, Option.bind_some, if_pos rfl, if_neg hw]
theorem powV_okA (p q : Rat) : okA (powV p q) := by
  unfold powV
  have one : ([1] : List Nat).length ≤ 1048576 := by decide
  split
  · exact okA_bad 3
  · split
    · exact okA_bad 3
    · split
      · exact okA_of fits_one 0
      · split
        · exact okA_of fits_zero 0
        · split
          · exact ⟨one, one⟩
          · split
            · rename_i h
              have h1 : (digs (p.num.natAbs ^ q.num.natAbs)).length ≤ 32 := h.1
              have h2 : (digs (p.den ^ q.num.natAbs)).length ≤ 32 := h.2
              split
              · exact ⟨Nat.le_trans h2 (by decide), Nat.le_trans h1 (by decide)⟩
              · exact ⟨Nat.le_trans h1 (by decide), Nat.le_trans h2 (by decide)⟩
            · exact okA_bad 8
theorem smallV_okA {n : Nat} : okA (if small n then ((false, digs n, [1]), 0) else bad 8) := by
  split
  · rename_i h; exact ⟨Nat.le_trans h (by decide), show ([1] : List Nat).length ≤ 1048576 by decide⟩
  · exact okA_bad 8
theorem factR_okA (p : Rat) : okA (factR p) := by
  unfold factR
  split
  · exact smallV_okA
  · exact okA_bad 3
theorem binR_okA (p q : Rat) : okA (binR p q) := by
  unfold binR
  split
  · split
    · exact smallV_okA
    · exact okA_of fits_zero 0
  · exact okA_bad 3
theorem lawFunctions {a b : RT} (ha : okRB a = true) (hb : okRB b = true) : law02_RatFunctions a b = some true := by
  unfold law02_RatFunctions
  have fa : ∃ x, rat_Factorial a = some x ∧ ref02_Factorial a = some x ∧ okA x := by
    rcases right_cases (r := a) with h | ⟨p, hp, rfl⟩
    · exact ⟨_, factorial_b ha h, ref_factorial_b ha h, okA_bad 22⟩
    · exact ⟨_, factorial_q hp, ref_factorial_q hp, factR_okA p⟩
  obtain ⟨f, f1, f2, f3⟩ := fa
  rcases two_cases (a := a) (b := b) with h | ⟨p, q, hp, hq, rfl, rfl⟩
  · rw [residue_b ha hb h, Option.bind_some, ref_residue_b ha hb h, Option.bind_some, live_eq, Option.bind_some, if_pos rfl, same_refl (okA_bad 22), Option.bind_some, Option.bind_some, if_neg (by decide), power_b ha hb h, Option.bind_some, ref_power_b ha hb h, Option.bind_some,
      same_refl (okA_bad 22), Option.bind_some, if_pos rfl, f1, Option.bind_some, f2, Option.bind_some, same_refl f3, Option.bind_some, if_pos rfl, binomial_b ha hb h, Option.bind_some, ref_binomial_b ha hb h, Option.bind_some, same_refl (okA_bad 22)]; rfl
  · rw [residue_q hp hq, Option.bind_some, ref_residue_q hp hq, Option.bind_some, live_eq, Option.bind_some, if_pos rfl, same_refl (modR_okA hq), Option.bind_some, Option.bind_some, if_neg (by decide), power_all hp hq, Option.bind_some, ref_power_all hp hq, Option.bind_some,
      same_refl (powV_okA p q), Option.bind_some, if_pos rfl, f1, Option.bind_some, f2, Option.bind_some, same_refl f3, Option.bind_some, if_pos rfl, binomial_all hp hq, Option.bind_some, ref_binomial_all hp hq, Option.bind_some, same_refl (binR_okA p q)]; rfl
end Go.FL
/-
  The statement RatFunctionsSaid: for every input the law gives true, and each argument reads as it read before.
-/
namespace Go.Proofs.YtijibkhkoopgpaaGreat.ratFunctions
open Go.ChangeShapes Go.WideShapes Go.ChangeAt Go.RowKit Go.FL

theorem own : ownKnob Tryz.prog.godebug = none := by kernel_rfl
theorem laid : laidOutB Tryz.prog = true := by kernel_rfl
theorem params : ∀ t ∈ Tryz.f3.params.toList, Tryz.prog.readableRec t = true ∧ t < Tryz.prog.types.size := by
  intro t ht
  simp only [Tryz.params3, List.mem_cons, List.not_mem_nil, or_false] at ht
  rcases ht with rfl | rfl <;> exact ⟨by kernel_rfl, of_decide_eq_true (by kernel_rfl)⟩
set_option maxRecDepth 100000 in
theorem lifted (os : Os) (started : os.Started) (H : Type) (enc : TypeId × Value → H) :
    ReturnsInHanded {} Tryz.checked os 3 .any (Rows.ratFunctionsSpec.pre6 enc Tryz.prog Tryz.f3 Rows.ratFunctionsRow.domain false) (Rows.ratFunctionsSpec.post enc Tryz.prog Tryz.f3 false true false false) := by
  refine returnsInHanded_of_change_sized (C := Tryz.checked) own started (by kernel_rfl) Tryz.func3
    (ChangeSpec.witness6 (enc := enc) (C := Tryz.checked) false ⟨#[], #[.agg #[.bool false, .slice none 0 0, .slice none 0 0], .agg #[.bool false, .slice none 0 0, .slice none 0 0]], []⟩ 8 (by kernel_rfl) (by kernel_rfl) (by kernel_rfl) (by kernel_rfl)) ?_
  intro W base args ds gs before hval0 hW hcnd hsz _
  have hval : ∀ (j : Nat) t v, Tryz.f3.params[j]? = some t → args[j]? = some v → Value.okWide Tryz.prog W .any base t v := hval0
  have hW' := hW
  obtain ⟨p, q, hA0, hV, rfl, hfz, hnd⟩ := hW
  have hA : DataW.TrodAll enc Tryz.prog W 0 (fun _ => true) true Tryz.f3.params.toList args.toList ds p := hA0
  rw [Tryz.params3] at hA hval
  obtain ⟨v0, vs0, d0, ds0, p0, q0, hargs, rfl, rfl, h0, r0⟩ := trodAll_cons hA
  obtain ⟨v1, vs1, d1, ds1, p1, q1, rfl, rfl, rfl, h1, r1⟩ := trodAll_cons r0
  obtain ⟨rfl, rfl, rfl⟩ := trodAll_nil r1
  obtain rfl : args = #[v0, v1] := by cases args; simp_all
  obtain ⟨rfl, rfl⟩ := trodVars_none hV
  rw [Tryz.params3] at hsz
  have w0 : ∀ m ∈ DataW.weights Tryz.prog 24 d0, m ≤ reachBytes := fun m hm => by simpa using List.all_eq_true.1 hsz m (DataW.weights_mem_each (j := 0) rfl rfl m hm)
  obtain ⟨a0, o0, e0⟩ := arg_agg (v := v0) op_rat (let ⟨cs, h, _⟩ := okWide_struct (P := Tryz.prog) Tryz.underlying24 (hval 0 24 v0 rfl rfl); ⟨cs, h⟩) h0 w0
  have w1 : ∀ m ∈ DataW.weights Tryz.prog 24 d1, m ≤ reachBytes := fun m hm => by simpa using List.all_eq_true.1 hsz m (DataW.weights_mem_each (j := 1) rfl rfl m hm)
  obtain ⟨a1, o1, e1⟩ := arg_agg (v := v1) op_rat (let ⟨cs, h, _⟩ := okWide_struct (P := Tryz.prog) Tryz.underlying24 (hval 1 24 v1 rfl rfl); ⟨cs, h⟩) h1 w1
  refine (law_calls (law02_RatFunctions_ok (lawFunctions o0 o1)) (.cons e0 (.cons e1 .nil))).mono fun e W' ⟨he, hb⟩ => ?_
  subst he
  exact ⟨_, rfl, post_law hW' rfl (fun _ => rfl) rfl Tryz.underlying4 laid params hb⟩

theorem over : Rows.ratFunctionsRow.holds Tryz.pinned (OpenSpec.ofChange Rows.ratFunctionsSpec) :=
  OpenClaim.holds_of_wide 3 Tryz.f3 rfl rfl rfl rfl rfl rfl rfl ⟨rfl, rfl, rfl, rfl, rfl⟩ rfl rfl rfl rfl rfl (by kernel_rfl) Tryz.func3 (by kernel_rfl)
    (of_decide_eq_true (by kernel_rfl)) (by unfold Func.isWrapper; first | (rw [if_pos (by decide +kernel)]; kernel_rfl) | (rw [if_neg (by decide +kernel)]; exact ⟨rfl, rfl⟩))
    (fun os started H enc _ => lifted os started H enc)

theorem proved : Rows.RatFunctionsSaid :=
  over
end Go.Proofs.YtijibkhkoopgpaaGreat.ratFunctions
