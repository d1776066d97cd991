/-
  The law: its function printed as a pure function, its contract, the plain law, the statement
-/
import Derived.Test.YtijibkhkoopgpaaReD
import Derived.Test.YtijibkhkoopgpaaRows
set_option linter.unusedVariables false
/-
  GP: the law RatMakes.
-/
namespace Go.FL
open Go Go.Proofs

end Go.FL
/-
  GP: the law RatReckons.
-/
namespace Go.FL
open Go Go.Proofs

end Go.FL
/-
  GP: the law RatOrders.
-/
namespace Go.FL
open Go Go.Proofs

end Go.FL
/-
  GP: the law RatRounds.
-/
namespace Go.FL
open Go Go.Proofs

end Go.FL
/-
  Plain laws, rat 7: RatMakes, RatReckons, RatOrders, RatRounds.
-/
namespace Go.FL
open Go Go.Proofs

theorem ref2Same_eq {a c : RT} (h1 : a.2.1.length ≤ 35184372087808) (h2 : a.2.2.length ≤ 35184372087808) : ref2Same a c = some (decide (a = c)) := if_pos (by rw [decide_eq_true h1, decide_eq_true h2]; rfl)
theorem ref2Same_self {a : RT} (ha : okRB a = true) : ref2Same a a = some true := by
  obtain ⟨_, _, h1, h2⟩ := okRB_iff.1 ha
  rw [ref2Same_eq h1 h2]; simp
end Go.FL
/-
  GP: the law RatBack.
-/
namespace Go.FL
open Go Go.Proofs

end Go.FL
/-
  GP: the law RatResidues.
-/
namespace Go.FL
open Go Go.Proofs

end Go.FL
/-
  Plain laws, rat 8: RatBack, RatResidues.
-/
namespace Go.FL
open Go Go.Proofs

end Go.FL
/-
  GP: the law RatCompares.
-/
namespace Go.FL
open Go Go.Proofs

end Go.FL
/-
  Plain laws, rat 9: RatCompares.
-/
namespace Go.FL
open Go Go.Proofs

def absR (p : Rat) : Rat := if p < 0 then -p else p
def maxA (p q : Rat) : Rat := if absR p < absR q then absR q else absR p
def within (c p q : Rat) : Prop := absR (p - q) ≤ c * maxA p q
instance (c p q : Rat) : Decidable (within c p q) := inferInstanceAs (Decidable (_ ≤ _))
theorem cmpN_lt {m n : Nat} : cmpN m n < 0 ↔ m < n := by
  unfold cmpN; split
  · simp [*]
  · split <;> simp [*]
theorem cmpN_le {m n : Nat} : cmpN m n ≤ 0 ↔ m ≤ n := by
  unfold cmpN; split
  · simp; omega
  · split
    · simp; omega
    · constructor
      · intro h; omega
      · intro h; omega
end Go.FL
/-
  Plain laws, rat 10: RatCompares, the reference's side and the law.
-/
namespace Go.FL
open Go Go.Proofs

end Go.FL
/-
  GP: the law RatPowers.
-/
namespace Go.FL
open Go Go.Proofs

end Go.FL
/-
  Plain laws, rat 11: powers, RatPowers.
-/
namespace Go.FL
open Go Go.Proofs

end Go.FL
/-
  GP: the law TopField.
-/
namespace Go.FL
open Go Go.Proofs

end Go.FL
/-
  Plain laws, rat 12: printing a number, TopField.
-/
namespace Go.FL
open Go Go.Proofs

end Go.FL
/-
  GP: the law RatPascal.
-/
namespace Go.FL
open Go Go.Proofs

def law02_RatPascal (a0 : Int) (a1 : Int) : Option (Bool) := ((ratOfInt (Int.tmod (IntKind.wrap .i64 a0) 120)).bind fun x1 => ((ratOfInt (Int.tmod (IntKind.wrap .i64 a1) 120)).bind fun x2 => ((rat_Binomial x1 x2).bind fun x3 => ((ratOfInt (w64 ((Int.tmod (IntKind.wrap .i64 a0) 120) + 1))).bind fun x4 => ((ratOfInt (Int.tmod (IntKind.wrap .i64 a1) 120)).bind fun x5 => ((rat_Binomial x4 x5).bind fun x6 => ((ratOfInt (w64 ((Int.tmod (IntKind.wrap .i64 a0) 120) + 1))).bind fun x7 => ((ratOfInt (w64 ((Int.tmod (IntKind.wrap .i64 a1) 120) + 1))).bind fun x8 => ((rat_Binomial x7 x8).bind fun x9 => ((ratAdd ([x3.1, x6.1])).bind fun x10 => (law02_live.bind fun x11 => (Option.bind ((if x11 = true then (if x3.2 = 0 then (if x6.2 = 0 then (if x9.2 = 0 then (if x10.2 = 0 then ((ref2Same x10.1 x9.1).bind fun x13 => (some x13)) else (some false)) else (some false)) else (some false)) else (some false)) else (some false)) : Option (Bool)) fun (z11 : Bool) => (some (z11))))))))))))))
theorem law02_RatPascal_ok {a0 : Int} {a1 : Int} {r : Bool} (h : law02_RatPascal a0 a1 = some r) :
    Fn Try.prog 10 [.i .u8 a0, .i .u8 a1] (.d (.b r)) := by
  unfold law02_RatPascal at h
  refine Fn.of (rs := [.tmp 4]) (nt := 77) Try.func10 rfl rfl rfl (by simp) rfl ?_
  refine .seq ?_
  refine .region ?_
  refine asd ?_
  refine rn ?_
  refine .gh (Gh.keep [0, 1, 4] rfl) ?_
  refine .seq ?_
  refine .region ?_
  refine vk (vmvd) ?_
  refine vk (vcv gk_uint8 gk_int) ?_
  refine vk (vbic (c := (120 : Int) ≠ 0) (by decide)) ?_
  refine vk (vmvd) ?_
  refine vk (vcv gk_uint8 gk_int) ?_
  refine vk (vbic (c := (120 : Int) ≠ 0) (by decide)) ?_
  refine asd ?_
  refine asd ?_
  refine rn ?_
  refine .gh (Gh.keep [4, 5, 6] rfl) ?_
  refine .seq ?_
  refine .region ?_
  refine vk (vmvd) ?_
  obtain ⟨x1, hx1, h⟩ := bnd h
  refine vk (vcl0 (ratOfInt_ok hx1) Try.call28) ?_
  refine vk (vmvd) ?_
  obtain ⟨x2, hx2, h⟩ := bnd h
  refine vk (vcl0 (ratOfInt_ok hx2) Try.call28) ?_
  obtain ⟨x3, hx3, h⟩ := bnd h
  refine vk (VOK.tupd (vs := [.ag [.b x3.1.1, .sl (L x3.1.2.1), .sl (L x3.1.2.2)], .i .i64 x3.2]) (vcl0 (rat_Binomial_ok hx3) Try.call46)) ?_
  refine vk (vmvd) ?_
  refine vk (vex) ?_
  refine vk (vex) ?_
  refine vk (van (zero_of gI_R) gZ_R) ?_
  refine stn ?_ gS_R (by decide)
  refine asd ?_
  refine rn ?_
  refine .gh (Gh.keep [4, 5, 6, 7, 8] rfl) ?_
  refine .seq ?_
  refine .region ?_
  refine vk (vmvd) ?_
  refine vk (vbi) ?_
  obtain ⟨x4, hx4, h⟩ := bnd h
  refine vk (vcl0 (ratOfInt_ok hx4) Try.call28) ?_
  refine vk (vmvd) ?_
  obtain ⟨x5, hx5, h⟩ := bnd h
  refine vk (vcl0 (ratOfInt_ok hx5) Try.call28) ?_
  obtain ⟨x6, hx6, h⟩ := bnd h
  refine vk (VOK.tupd (vs := [.ag [.b x6.1.1, .sl (L x6.1.2.1), .sl (L x6.1.2.2)], .i .i64 x6.2]) (vcl0 (rat_Binomial_ok hx6) Try.call46)) ?_
  refine vk (vmvd) ?_
  refine vk (vex) ?_
  refine vk (vex) ?_
  refine vk (van (zero_of gI_R) gZ_R) ?_
  refine stn ?_ gS_R (by decide)
  refine asd ?_
  refine rn ?_
  refine .gh (Gh.keep [4, 5, 6, 7, 8, 9, 10] rfl) ?_
  refine .seq ?_
  refine .region ?_
  refine vk (vmvd) ?_
  refine vk (vbi) ?_
  obtain ⟨x7, hx7, h⟩ := bnd h
  refine vk (vcl0 (ratOfInt_ok hx7) Try.call28) ?_
  refine vk (vmvd) ?_
  refine vk (vbi) ?_
  obtain ⟨x8, hx8, h⟩ := bnd h
  refine vk (vcl0 (ratOfInt_ok hx8) Try.call28) ?_
  obtain ⟨x9, hx9, h⟩ := bnd h
  refine vk (VOK.tupd (vs := [.ag [.b x9.1.1, .sl (L x9.1.2.1), .sl (L x9.1.2.2)], .i .i64 x9.2]) (vcl0 (rat_Binomial_ok hx9) Try.call46)) ?_
  refine vk (vmvd) ?_
  refine vk (vex) ?_
  refine vk (vex) ?_
  refine vk (van (zero_of gI_R) gZ_R) ?_
  refine stn ?_ gS_R (by decide)
  refine asd ?_
  refine rn ?_
  refine .gh (Gh.keep [4, 7, 8, 9, 10, 11, 12] rfl) ?_
  refine .seq ?_
  refine .region ?_
  refine vk (vldn gA_R gS_R) ?_
  refine vk (vldn gA_R gS_R) ?_
  refine vk ((vbsl (RVs_flat [x3.1, x6.1]) ge_RVs).deep) ?_
  obtain ⟨x10, hx10, h⟩ := bnd h
  refine vk (VOK.tupd (vs := [.ag [.b x10.1.1, .sl (L x10.1.2.1), .sl (L x10.1.2.2)], .i .i64 x10.2]) (vcl0 (ratAdd_ok hx10) Try.call34)) ?_
  refine vk (vmvd) ?_
  refine vk (vex) ?_
  refine vk (vex) ?_
  refine vk (van (zero_of gI_R) gZ_R) ?_
  refine stn ?_ gS_R (by decide)
  refine asd ?_
  refine rn ?_
  refine .gh (Gh.keep [4, 8, 10, 11, 12, 13, 14] rfl) ?_
  refine .seq ?_
  obtain ⟨x11, hx11, h⟩ := bnd h
  obtain ⟨z11, hz, h⟩ := bnd h
  refine AW.mr (σ := Unit) (fun _ => True) (fun _ => [(4, .d (.b z11))]) (fun _ => []) ?_ ?_
  · skip
    refine .region ?_
    refine vk (vcl0 (law02_live_ok hx11) Try.call15) ?_
    by_cases hc : x11 = true
    · replace hz := ite_t hc hz
      have hb0 : x11 = true := hc
      refine vk (VOK.lit (vmvd) hb0) ?_
      refine vk (vmvd) ?_
      refine vk (vbi) ?_
      refine vk (vpkd) ?_
      by_cases hc : x3.2 = 0
      · replace hz := ite_t hc hz
        have hb1 : (decide (x3.2 = 0)) = true := (decide_eq_true hc)
        refine vk (VOK.lit (vmvd) hb1) ?_
        refine vk (vmvd) ?_
        refine vk (vbi) ?_
        refine vk (vpkd) ?_
        by_cases hc : x6.2 = 0
        · replace hz := ite_t hc hz
          have hb2 : (decide (x6.2 = 0)) = true := (decide_eq_true hc)
          refine vk (VOK.lit (vmvd) hb2) ?_
          refine vk (vmvd) ?_
          refine vk (vbi) ?_
          refine vk (vpkd) ?_
          by_cases hc : x9.2 = 0
          · replace hz := ite_t hc hz
            have hb3 : (decide (x9.2 = 0)) = true := (decide_eq_true hc)
            refine vk (VOK.lit (vmvd) hb3) ?_
            refine vk (vmvd) ?_
            refine vk (vbi) ?_
            refine vk (vpkd) ?_
            by_cases hc : x10.2 = 0
            · replace hz := ite_t hc hz
              have hb4 : (decide (x10.2 = 0)) = true := (decide_eq_true hc)
              refine vk (VOK.lit (vmvd) hb4) ?_
              refine vk (vldn gA_R gS_R) ?_
              refine vk (vldn gA_R gS_R) ?_
              obtain ⟨x13, hx13, hz⟩ := bnd hz
              refine vk (vcl0 (ref2Same_ok hx13) Try.call25) ?_
              refine vk (vpkd) ?_
              refine asd ?_
              refine RL.gh (Gh.keep [4] rfl) ?_
              refine .nil ?_
              cases hz
              exact jr () trivial
            replace hz := ite_f hc hz
            have hb4 : (decide (x10.2 = 0)) = false := (decide_eq_false hc)
            refine vk (VOK.lit (vmvd) hb4) ?_
            refine gf ?_
            refine gf ?_
            refine gf ?_
            refine vk (vpkd) ?_
            refine asd ?_
            refine RL.gh (Gh.keep [4] rfl) ?_
            refine .nil ?_
            cases hz
            exact jr () trivial
          replace hz := ite_f hc hz
          have hb3 : (decide (x9.2 = 0)) = false := (decide_eq_false hc)
          refine vk (VOK.lit (vmvd) hb3) ?_
          refine gf ?_
          refine gf ?_
          refine vk (vpkd) ?_
          refine vk (vmvd) ?_
          refine gf ?_
          refine gf ?_
          refine gf ?_
          refine vk (vpkd) ?_
          refine asd ?_
          refine RL.gh (Gh.keep [4] rfl) ?_
          refine .nil ?_
          cases hz
          exact jr () trivial
        replace hz := ite_f hc hz
        have hb2 : (decide (x6.2 = 0)) = false := (decide_eq_false hc)
        refine vk (VOK.lit (vmvd) hb2) ?_
        refine gf ?_
        refine gf ?_
        refine vk (vpkd) ?_
        refine vk (vmvd) ?_
        refine gf ?_
        refine gf ?_
        refine vk (vpkd) ?_
        refine vk (vmvd) ?_
        refine gf ?_
        refine gf ?_
        refine gf ?_
        refine vk (vpkd) ?_
        refine asd ?_
        refine RL.gh (Gh.keep [4] rfl) ?_
        refine .nil ?_
        cases hz
        exact jr () trivial
      replace hz := ite_f hc hz
      have hb1 : (decide (x3.2 = 0)) = false := (decide_eq_false hc)
      refine vk (VOK.lit (vmvd) hb1) ?_
      refine gf ?_
      refine gf ?_
      refine vk (vpkd) ?_
      refine vk (vmvd) ?_
      refine gf ?_
      refine gf ?_
      refine vk (vpkd) ?_
      refine vk (vmvd) ?_
      refine gf ?_
      refine gf ?_
      refine vk (vpkd) ?_
      refine vk (vmvd) ?_
      refine gf ?_
      refine gf ?_
      refine gf ?_
      refine vk (vpkd) ?_
      refine asd ?_
      refine RL.gh (Gh.keep [4] rfl) ?_
      refine .nil ?_
      cases hz
      exact jr () trivial
    replace hz := ite_f hc hz
    have hb0 : x11 = false := (bf hc)
    refine vk (VOK.lit (vmvd) hb0) ?_
    refine gf ?_
    refine gf ?_
    refine vk (vpkd) ?_
    refine vk (vmvd) ?_
    refine gf ?_
    refine gf ?_
    refine vk (vpkd) ?_
    refine vk (vmvd) ?_
    refine gf ?_
    refine gf ?_
    refine vk (vpkd) ?_
    refine vk (vmvd) ?_
    refine gf ?_
    refine gf ?_
    refine vk (vpkd) ?_
    refine vk (vmvd) ?_
    refine gf ?_
    refine gf ?_
    refine gf ?_
    refine vk (vpkd) ?_
    refine asd ?_
    refine RL.gh (Gh.keep [4] rfl) ?_
    refine .nil ?_
    cases hz
    exact jr () trivial
  rintro _ _
  refine .ret ?_
  cases h
  exact ⟨rfl, rfl⟩
end Go.FL
/-
  Plain laws, rat 13: RatPascal.
-/
namespace Go.FL
open Go Go.Proofs

/-- The number of ways to choose. -/
def ch : Nat → Nat → Nat
  | _, 0 => 1
  | 0, _ + 1 => 0
  | n + 1, k + 1 => ch n k + ch n (k + 1)
theorem ch_zero (n : Nat) : ch n 0 = 1 := by cases n <;> rfl
theorem ch_over : ∀ (n k : Nat), n < k → ch n k = 0
  | _, 0, h => by omega
  | 0, _ + 1, _ => rfl
  | n + 1, k + 1, h => by rw [ch, ch_over n k (by omega), ch_over n (k + 1) (by omega)]
theorem ch_self : ∀ n : Nat, ch n n = 1
  | 0 => rfl
  | n + 1 => by rw [ch, ch_self n, ch_over n (n + 1) (by omega)]
theorem ch_le : ∀ (n k : Nat), ch n k ≤ 2 ^ n
  | n, 0 => by rw [ch_zero]; exact Nat.one_le_two_pow
  | 0, _ + 1 => by rw [ch]; decide
  | n + 1, k + 1 => by
    have h1 := ch_le n k
    have h2 := ch_le n (k + 1)
    rw [ch, Nat.pow_succ]; omega
theorem ch_step : ∀ (n k : Nat), (ch n (k + 1) : Int) * (k + 1) = ch n k * ((n : Int) - k)
  | 0, 0 => by simp [ch]
  | 0, k + 1 => by simp [ch]
  | n + 1, 0 => by
    have ih := ch_step n 0
    rw [ch_zero] at ih ⊢
    simp only [ch, ch_zero]
    push_cast at ih ⊢
    grind
  | n + 1, k + 1 => by
    have i1 := ch_step n k
    have i2 := ch_step n (k + 1)
    simp only [ch]
    push_cast at i1 i2 ⊢
    grind
theorem ch_sym : ∀ (n k : Nat), k ≤ n → ch n k = ch n (n - k)
  | n, 0, _ => by rw [ch_zero, Nat.sub_zero, ch_self]
  | 0, _ + 1, h => by omega
  | n + 1, k + 1, h => by
    rw [show n + 1 - (k + 1) = n - k by omega]
    by_cases e : k = n
    · subst e; rw [Nat.sub_self, ch_self, ch_zero]
    · obtain ⟨m, hm⟩ : ∃ m, n - k = m + 1 := ⟨n - k - 1, by omega⟩
      rw [hm, ch, ch, ← hm, ch_sym n k (by omega), ch_sym n (k + 1) (by omega), show n - (k + 1) = m by omega, Nat.add_comm]
theorem ch_div {n j : Nat} (h1 : 1 ≤ j) (h2 : j ≤ n) : ch n (j - 1) * (n + 1 - j) / j = ch n j := by
  have := ch_step n (j - 1)
  have e : ch n (j - 1) * (n + 1 - j) = ch n j * j := by
    obtain ⟨i, rfl⟩ : ∃ i, j = i + 1 := ⟨j - 1, by omega⟩
    rw [Nat.add_sub_cancel] at this ⊢
    have h3 : ((n + 1 - (i + 1) : Nat) : Int) = (n : Int) - i := by omega
    apply Int.natCast_inj.1
    rw [Int.natCast_mul, Int.natCast_mul, h3, ← this]; rfl
  rw [e, Nat.mul_div_cancel _ (by omega)]
theorem ch_len {n k : Nat} (h : n ≤ 120) : (digs (ch n k)).length ≤ 4 := digs_len (k := 4) (Nat.lt_of_le_of_lt (Nat.le_trans (ch_le n k) (Nat.pow_le_pow_right (by decide) h)) (by decide))
theorem prod2 {a b : Nat} (ha : (digs a).length ≤ 40000) (hb : (digs b).length ≤ 40000) : nProduct [digs a, digs b] = some (digs (a * b)) := by
  rw [nProduct_eq (by simp [okL_digs ha, okL_digs hb]) (by simp)]
  simp [prodF, val_digs]
theorem minus_eq {m n : Nat} (hm : (digs m).length ≤ 500000) (hn : (digs n).length ≤ 500000) : nMinus (digs m) (digs n) = some (digs (minN m n), decide (n ≤ m)) := by
  unfold nMinus
  rw [if_pos (by rw [okL_digs hm, okL_digs hn]; rfl), val_digs, val_digs]
theorem divMod_eq {m n : Nat} (hm : (digs m).length ≤ 500000) (hn : (digs n).length ≤ 500000) (h : n ≠ 0) : nDivMod (digs m) (digs n) = some (digs (m / n), digs (m % n), true) := by
  unfold nDivMod
  rw [if_pos (by rw [okL_digs hm, okL_digs hn]; rfl), val_digs, val_digs, remN_eq h, decide_eq_true h]
theorem few {n : Nat} (h : n < 4294967296) (k : Nat) : (digs n).length ≤ k + 1 := Nat.le_trans (few_len h) (by omega)
theorem binom_loop {a : RT} {N M : Nat} (ha : a.2.1 = digs N) (hN : N ≤ 120) (hM : M ≤ N) : ∀ (d k j : Nat) (s : RT) (e : Int), M + 1 - j = d → 1 ≤ j → j ≤ M + 1 → d < k →
    rat_Binomial_l1 a (digs M) k s e (digs (ch N (j - 1))) (digs j) = some ((false, digs (ch N M), [1]), 0)
  | 0, k, j, s, e, h1, h2, h3, h4 => by
    obtain ⟨k, rfl⟩ : ∃ m, k = m + 1 := ⟨k - 1, by omega⟩
    rw [rat_Binomial_l1, nCompare_eq (few (by omega) _) (few (by omega) _), Option.bind_some, if_neg (by rw [cmpN_le]; omega), ratOne_eq, show j - 1 = M by omega]; rfl
  | d + 1, k, j, s, e, h1, h2, h3, h4 => by
    obtain ⟨k, rfl⟩ : ∃ m, k = m + 1 := ⟨k - 1, by omega⟩
    rw [rat_Binomial_l1, nCompare_eq (few (by omega) _) (few (by omega) _), Option.bind_some, if_pos (by rw [cmpN_le]; omega), ratOne_eq, Option.bind_some, ha, sum_one (few (by omega) _), Option.bind_some,
      minus_eq (few (by omega) _) (few (by omega) _), Option.bind_some]
    have hm : minN (N + 1) j = N + 1 - j := if_pos (by omega)
    have hl := ch_len (k := j - 1) hN
    rw [hm, prod2 (Nat.le_trans hl (by decide)) (few (by omega) _), Option.bind_some, divMod_eq (Nat.le_trans (len2 (k := 4) hl (few (by omega) _)) (by decide)) (few (by omega) _) (by omega), Option.bind_some, ch_div h2 (by omega)]
    have hl2 := ch_len (k := j) hN
    rw [if_neg (by show ¬ (32 : Int) < ((digs (ch N j)).length : Nat); omega), Option.bind_some, sum_one (few (by omega) _), Option.bind_some]
    exact binom_loop ha hN hM d k (j + 1) s e (by omega) (by omega) (by omega) (by omega)
theorem nat_parts (n : Nat) : ofQ (((n : Nat) : Int) : Rat) = (false, digs n, [1]) := by
  unfold ofQ
  rw [Rat.num_intCast, Rat.den_intCast, one_digs]
  simp
theorem natural_q {n : Nat} (h : n ≤ 120) : rat_natural (ofQ (((n : Nat) : Int) : Rat)) = some true := by
  unfold rat_natural
  rw [isInt_q (fits_int (by omega) (by omega)), Option.bind_some, nat_parts, Rat.den_intCast]; rfl
theorem fuel_lt : 120 < FUEL := by unfold FUEL; omega
theorem jn_eq {α β : Type} (k : α) (b : α → β) : jn k b = b k := rfl
theorem binom_q {m n : Nat} (hm : m ≤ 120) (hn : n ≤ 120) : rat_Binomial (ofQ ((m : Int) : Rat)) (ofQ ((n : Int) : Rat)) = some (ofQ ((ch n m : Int) : Rat), 0) := by
  have fm : fits ((m : Int) : Rat) := fits_int (by omega) (by omega)
  have fn : fits ((n : Int) : Rat) := fits_int (by omega) (by omega)
  unfold rat_Binomial
  rw [ratAll2 (ofQ_okRB fm) (ofQ_okRB fn), two_right fm fn, Option.bind_some, if_pos rfl, natural_q hm, Option.bind_some, if_pos rfl, natural_q hn, Option.bind_some, Option.bind_some, if_neg (by decide), nat_parts m, nat_parts n, nat_parts (ch n m)]
  rw [minus_eq (few (by omega) _) (few (by omega) _), Option.bind_some]
  have start : ∀ M, M ≤ n → (ratOne.bind fun x9 => (ratOne.bind fun x10 => (rat_Binomial_l1 (false, digs n, [1]) (digs M) FUEL (false, [], []) 0 x9 x10))) = some ((false, digs (ch n M), [1]), 0) := fun M hM => by
    have := binom_loop (a := (false, digs n, [1])) (N := n) (M := M) rfl hn hM M FUEL 1 (false, [], []) 0 (by omega) (by omega) (by omega) (Nat.lt_of_le_of_lt (show M ≤ 120 by omega) fuel_lt)
    rw [Nat.sub_self, ch_zero, one_digs] at this
    rw [ratOne_eq, Option.bind_some, Option.bind_some]
    exact this
  rw [jn_eq]
  by_cases h : m ≤ n
  · have hmin : minN n m = n - m := if_pos h
    rw [if_pos (decide_eq_true h), hmin, nCompare_eq (few (by omega) _) (few (by omega) _), Option.bind_some]
    by_cases h2 : n - m < m
    · rw [if_pos (cmpN_lt.2 h2), ch_sym n m h]; exact start _ (by omega)
    · rw [if_neg (mt cmpN_lt.1 h2)]; exact start _ h
  · rw [if_neg (by simpa using h), ofInt_q (by decide) (by decide), Option.bind_some, ch_over n m (by omega)]
    exact congrArg (fun x => some (x, (0 : Int))) (nat_parts 0)
theorem fits_ch {n k : Nat} (h : n ≤ 120) : fits ((ch n k : Int) : Rat) := by
  constructor
  · show (digs (Rat.num _).natAbs).length ≤ 32
    rw [Rat.num_intCast]
    exact Nat.le_trans (ch_len h) (by decide)
  · show (digs (Rat.den _)).length ≤ 32
    rw [Rat.den_intCast, one_digs]; decide
theorem ofNat_q (n : Nat) (h : n ≤ 120) : ratOfInt (n : Int) = some (ofQ ((n : Int) : Rat)) := ofInt_q (by omega) (by omega)
theorem lawPascal {a b : Int} (ha : (Lit.int .u8 a).wf = true) (hb : (Lit.int .u8 b).wf = true) : law02_RatPascal a b = some true := by
  obtain ⟨i, hi, rfl⟩ := as_u8 ha
  obtain ⟨j, hj, rfl⟩ := as_u8 hb
  unfold law02_RatPascal
  have hw : ∀ i : Nat, i < 256 → IntKind.wrap .i64 (i : Int) = i := fun i h => w64_eq (by omega) (by omega)
  rw [hw i hi, hw j hj]
  have ht : ∀ i : Nat, Int.tmod (i : Int) 120 = ((i % 120 : Nat) : Int) := fun i => rfl
  rw [ht, ht]
  have hi2 : i % 120 < 120 := Nat.mod_lt _ (by decide)
  have hj2 : j % 120 < 120 := Nat.mod_lt _ (by decide)
  generalize i % 120 = m at *
  generalize j % 120 = n at *
  have hp : ∀ m : Nat, m < 120 → w64 ((m : Int) + 1) = ((m + 1 : Nat) : Int) := fun m h => by rw [w64_eq (by omega) (by omega)]; rfl
  have e : ((ch n m : Int) : Rat) + ((ch n (m + 1) : Int) : Rat) = ((ch (n + 1) (m + 1) : Int) : Rat) := by
    rw [ch, Int.natCast_add, Rat.intCast_add]
  rw [hp m hi2, hp n hj2, ofNat_q m (by omega), Option.bind_some, ofNat_q n (by omega), Option.bind_some, binom_q (by omega) (by omega), Option.bind_some, ofNat_q (m + 1) (by omega), Option.bind_some, Option.bind_some, binom_q (by omega) (by omega),
    Option.bind_some, Option.bind_some, ofNat_q (n + 1) (by omega), Option.bind_some, binom_q (by omega) (by omega), Option.bind_some, add2_q (fits_ch (by omega)) (fits_ch (by omega)), Option.bind_some, e, resR_fits (fits_ch (by omega)), live_eq, Option.bind_some,
    if_pos rfl, if_pos rfl, if_pos rfl, if_pos rfl, if_pos rfl, ref2Same_self (ofQ_okRB (fits_ch (by omega)))]
  rfl
end Go.FL
/-
  The statement RatPascalSaid: for every input the law gives true, and each argument reads as it read before.
-/
namespace Go.Proofs.Ytijibkhkoopgpaa.ratPascal
open Go.ChangeShapes Go.WideShapes Go.ChangeAt Go.RowKit Go.FL

theorem own : ownKnob Try.prog.godebug = none := by kernel_rfl
theorem laid : laidOutB Try.prog = true := by kernel_rfl
theorem params : ∀ t ∈ Try.f10.params.toList, Try.prog.readableRec t = true ∧ t < Try.prog.types.size := by
  intro t ht
  simp only [Try.params10, List.mem_cons, List.not_mem_nil, or_false] at ht
  rcases ht with rfl | rfl <;> exact ⟨by kernel_rfl, of_decide_eq_true (by kernel_rfl)⟩
set_option maxRecDepth 100000 in
theorem lifted (os : Os) (started : os.Started) (H : Type) (enc : TypeId × Value → H) :
    ReturnsInHanded {} Try.checked os 10 .any (Rows.ratPascalSpec.pre6 enc Try.prog Try.f10 Rows.ratPascalRow.domain false) (Rows.ratPascalSpec.post enc Try.prog Try.f10 false true false false) := by
  refine returnsInHanded_of_change_sized (C := Try.checked) own started (by kernel_rfl) Try.func10
    (ChangeSpec.witness6 (enc := enc) (C := Try.checked) false ⟨#[], #[.int .u8 0, .int .u8 0], []⟩ 8 (by kernel_rfl) (by kernel_rfl) (by kernel_rfl) (by kernel_rfl)) ?_
  intro W base args ds gs before hval0 hW hcnd hsz _
  have hval : ∀ (j : Nat) t v, Try.f10.params[j]? = some t → args[j]? = some v → Value.okWide Try.prog W .any base t v := hval0
  have hW' := hW
  obtain ⟨p, q, hA0, hV, rfl, hfz, hnd⟩ := hW
  have hA : DataW.TrodAll enc Try.prog W 0 (fun _ => true) true Try.f10.params.toList args.toList ds p := hA0
  rw [Try.params10] at hA hval
  obtain ⟨v0, vs0, d0, ds0, p0, q0, hargs, rfl, rfl, h0, r0⟩ := trodAll_cons hA
  obtain ⟨v1, vs1, d1, ds1, p1, q1, rfl, rfl, rfl, h1, r1⟩ := trodAll_cons r0
  obtain ⟨rfl, rfl, rfl⟩ := trodAll_nil r1
  obtain rfl : args = #[v0, v1] := by cases args; simp_all
  obtain ⟨rfl, rfl⟩ := trodVars_none hV
  rw [Try.params10] at hsz
  have w0 : ∀ m ∈ DataW.weights Try.prog 5 d0, m ≤ reachBytes := fun m hm => by simpa using List.all_eq_true.1 hsz m (DataW.weights_mem_each (j := 0) rfl rfl m hm)
  obtain ⟨a0, o0, e0⟩ := arg_int (by kernel_rfl : Try.prog.underlying 5 = some (.int .u8)) (hval 0 5 v0 rfl rfl) h0
  have w1 : ∀ m ∈ DataW.weights Try.prog 5 d1, m ≤ reachBytes := fun m hm => by simpa using List.all_eq_true.1 hsz m (DataW.weights_mem_each (j := 1) rfl rfl m hm)
  obtain ⟨a1, o1, e1⟩ := arg_int (by kernel_rfl : Try.prog.underlying 5 = some (.int .u8)) (hval 1 5 v1 rfl rfl) h1
  refine (law_calls (law02_RatPascal_ok (lawPascal o0 o1)) (.cons e0 (.cons e1 .nil))).mono fun e W' ⟨he, hb⟩ => ?_
  subst he
  exact ⟨_, rfl, post_law hW' rfl (fun _ => rfl) rfl Try.underlying4 laid params hb⟩

theorem over : Rows.ratPascalRow.holds Try.pinned (OpenSpec.ofChange Rows.ratPascalSpec) :=
  OpenClaim.holds_of_wide 10 Try.f10 rfl rfl rfl rfl rfl rfl rfl ⟨rfl, rfl, rfl, rfl, rfl⟩ rfl rfl rfl rfl rfl (by kernel_rfl) Try.func10 (by kernel_rfl)
    (of_decide_eq_true (by kernel_rfl)) (by unfold Func.isWrapper; first | (rw [if_pos (by decide +kernel)]; kernel_rfl) | (rw [if_neg (by decide +kernel)]; exact ⟨rfl, rfl⟩))
    (fun os started H enc _ => lifted os started H enc)

theorem proved : Rows.RatPascalSaid :=
  over
end Go.Proofs.Ytijibkhkoopgpaa.ratPascal
