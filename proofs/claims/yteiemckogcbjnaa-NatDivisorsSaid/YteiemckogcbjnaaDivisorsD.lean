/-
  Part 4 of 5 of the proof: the contracts of the functions, the law
-/
import Derived.Test.YteiemckogcbjnaaDivisorsC
set_option linter.unusedVariables false
/-
  glyphref01: DivMod.
-/
namespace Go.FL
open Go Go.Proofs

def remN (m n : Nat) : Nat := if n = 0 then 0 else m % n
theorem half_bit (V j : Nat) : V / 2 ^ j = 2 * (V / 2 ^ (j + 1)) + V / 2 ^ j % 2 := by
  rw [Nat.pow_succ, ← Nat.div_div_eq_div_mul]; omega
theorem refDivMod_fn {a b : List Nat} (ha : Ok a) (hb : Ok b) (hla : a.length ≤ 100000) (hlb : b.length ≤ 100000) : Fn Try.prog 15 [.sl (L a), .sl (L b)]
    (.tup [.d (.sl (L (digs (val a / val b)))), .d (.sl (L (digs (remN (val a) (val b))))), .d (.b (decide (val b ≠ 0)))]) := by
  refine Fn.of (rs := [.tmp 4, .tmp 5, .tmp 6]) (nt := 42) Try.func15 rfl rfl rfl (by simp) rfl ?_
  refine .seq ?_
  refine .region ?_
  refine asn ?_
  refine asn ?_
  refine asd ?_
  refine rn ?_
  refine .seq ?_
  refine .seq ?_
  refine .region ?_
  refine mvd ?_
  refine cl (xs := [.sl (L b)]) ?_ (refTrim_fn hb (by omega)) Try.call27
  refine ln ?_ (L_sz _) l32
  refine bi ?_
  refine rn ?_
  by_cases hD : val b = 0
  · rw [hD, digs_zero]
    refine cndt ?_
    refine .seq ?_
    refine .region ?_
    refine asn ?_
    refine asn ?_
    refine asd ?_
    refine rn ?_
    refine .gh (Gh.nlD (t := 4) rfl) ?_
    refine .gh (Gh.nlD (t := 5) rfl) ?_
    refine .ret ?_
    refine ⟨by decide, ?_, rfl, rfl, rfl⟩
    simp [remN, digs_zero]; exact ⟨rfl, rfl, rfl⟩
  · have hdn := digs_ne (show 0 < val b by omega)
    rw [decide_eq_false (show ¬ (((L (digs (val b))).length : Nat) : Int) = 0 by rw [L_length]; omega)]
    refine cndf ?_
    refine .skip ?_
    show AW _ _ _ _ _ _
    refine .gh (Gh.keep [0, 1] rfl) ?_
    refine .seq ?_
    refine .region ?_
    refine asn ?_
    refine asn ?_
    refine rn ?_
    have hbl := bits_len ha (Nat.le_refl _)
    have hDl : val b < 4294967296 ^ b.length := val_lt hb
    refine .mid (fun e H' => e = [(7, .d (.sl (L (digs (val a / val b))))), (8, .d (.sl (L (digs (val a % val b)))))]) ?_ ?_
    · refine .seq ?_
      refine .region ?_
      refine mvd ?_
      refine cl (xs := [.sl (L a)]) ?_ (refBits_fn ha (by omega)) Try.call33
      refine su ((bitsN (val a) : Nat) - 1 : Int) ?_ ?_
      · omega
      refine asd ?_
      refine rn ?_
      refine .block ?_
      refine .gh (Gh.nlD (t := 7) rfl) ?_
      refine .gh (Gh.nlD (t := 8) rfl) ?_
      refine .loop (.gh (Gh.keep [0, 1, 7, 8, 9] rfl) ?_)
      refine AL.cast (env' := [(0, .d (.sl (L a))), (1, .d (.sl (L b))), (7, .d (.sl (L (digs 0)))), (8, .d (.sl (L (digs 0)))), (9, .d (.i .i64 ((bitsN (val a) : Nat) - 1 : Int)))]) (by rw [digs_zero]; rfl) ?_
      refine AL.ind (σ := Nat × Nat × Nat) (m := fun s => s.1) (e := fun s => [(0, .d (.sl (L a))), (1, .d (.sl (L b))), (7, .d (.sl (L (digs s.2.1)))), (8, .d (.sl (L (digs s.2.2)))), (9, .d (.i .i64 ((s.1 : Int) - 1)))]) (h := fun _ => [])
        (I := fun s => s.1 ≤ bitsN (val a) ∧ s.2.1 * val b + s.2.2 = val a / 2 ^ s.1 ∧ s.2.2 < val b) ?_ (bitsN (val a), 0, 0) ⟨Nat.le_refl _, by
          have := bitsN_iff.1 (Nat.le_refl (bitsN (val a)))
          rw [Nat.div_eq_of_lt this]; simp, by dsimp only; omega⟩
      rintro ⟨i, q, r⟩ ⟨h1, h2, h3⟩ ih
      dsimp only at h1 h2 h3 ih ⊢
      refine .seq ?_
      refine .seq ?_
      refine .region ?_
      refine mvd ?_
      refine bi ?_
      refine rn ?_
      cases i with
      | zero =>
        rw [decide_eq_false (show ¬ (0 : Int) ≤ ((0 : Nat) : Int) - 1 by omega)]
        refine cndf ?_
        refine .gh (Gh.keep [7, 8] rfl) ?_
        refine .exit ?_
        rw [Nat.pow_zero, Nat.div_one] at h2
        have e1 : val a / val b = q := by
          rw [← h2, Nat.mul_comm, Nat.mul_add_div (by omega), Nat.div_eq_of_lt h3, Nat.add_zero]
        have e2 : val a % val b = r := by
          rw [← h2, Nat.mul_comm, Nat.mul_add_mod, Nat.mod_eq_of_lt h3]
        show _ = _
        rw [e1, e2]; rfl
      | succ j =>
        rw [decide_eq_true (show (0 : Int) ≤ ((j + 1 : Nat) : Int) - 1 by omega)]
        have hT := half_bit (val a) j
        rw [← h2] at hT
        have fb := bit_fn (a := a) (i := j) ha (by omega) (by omega)
        have hb2 : val a / 2 ^ j % 2 ≤ 1 := by omega
        have hqV : 2 * q + 1 ≤ 2 * val a + 1 := by
          have hq1 : q ≤ q * val b := Nat.le_mul_of_pos_right _ (by omega)
          have hq2 : val a / 2 ^ (j + 1) ≤ val a := Nat.div_le_self _ _
          omega
        have hrl : (digs r).length ≤ b.length := digs_len (by omega)
        have hql : (digs q).length ≤ a.length := digs_len (by have := val_lt ha; omega)
        generalize val a / 2 ^ j % 2 = bt at *
        refine cndt ?_
        refine .skip ?_
        show AW _ _ _ _ _ _
        refine .seq ?_
        refine .block ?_
        refine .seq ?_
        refine .region ?_
        refine mvd ?_
        refine mvd ?_
        refine mvd ?_
        rw [show ((j + 1 : Nat) : Int) - 1 = (j : Int) by omega]
        refine cl (xs := [.sl (L a), .i .i64 (j : Int)]) ?_ fb Try.call55
        refine cl (xs := [.sl (L (digs r)), .i .u32 (bt : Int)]) ?_ (twice_fn (digs_ok r) (by omega) hb2) Try.call54
        rw [val_digs]
        refine aso ?_
        refine rn ?_
        refine .gh (Gh.frz (p := .t 8) rfl (fun _ _ h => by cases h)) ?_
        refine .gh (Gh.keep [0, 1, 7, 8, 9] rfl) ?_
        have hr2l : (digs (2 * r + bt)).length ≤ b.length + 1 := digs_len (by rw [Nat.pow_succ]; omega)
        refine .seq ?_
        refine .region ?_
        refine asd ?_
        refine rn ?_
        refine .mid (fun e H' => H' = [] ∧ ∃ g r', g ≤ 1 ∧ (2 * q + g) * val b + r' = val a / 2 ^ j ∧ r' < val b ∧ e = [(0, .d (.sl (L a))), (1, .d (.sl (L b))), (7, .d (.sl (L (digs q)))), (8, .d (.sl (L (digs r')))), (9, .d (.i .i64 (j : Int))), (10, .d (.i .u32 ((g : Nat) : Int)))]) ?_ ?_
        · refine .seq ?_
          refine .region ?_
          refine mvd ?_
          refine mvd ?_
          refine cl (xs := [.sl (L (digs (2 * r + bt))), .sl (L b)]) ?_ (refCompare_fn (a := digs (2 * r + bt)) (digs_ok _) hb (by omega) (by omega)) Try.call31
          rw [val_digs]
          refine bi ?_
          refine rn ?_
          by_cases hge : val b ≤ 2 * r + bt
          · rw [decide_eq_true (show 0 ≤ cmpN (2 * r + bt) (val b) by unfold cmpN; rw [if_neg (by omega)]; split <;> decide)]
            have fm := refMinus_fn (a := digs (2 * r + bt)) (b := b) (digs_ok _) hb (by omega) (by omega)
            rw [val_digs, minN, if_pos hge, decide_eq_true hge] at fm
            refine cndt ?_
            refine .seq ?_
            refine .region ?_
            refine mvd ?_
            refine mvd ?_
            refine cl (xs := [.sl (L (digs (2 * r + bt))), .sl (L b)]) ?_ fm Try.call43
            refine mvt ?_
            refine ex ?_
            refine ex ?_
            refine asd ?_
            refine rn ?_
            refine .region ?_
            refine asd ?_
            refine RL.gh (Gh.keep [0, 1, 7, 8, 9, 10] rfl) ?_
            refine .nil ?_
            refine ⟨rfl, 1, 2 * r + bt - val b, by omega, ?_, by omega, rfl⟩
            rw [hT, Nat.add_mul, Nat.mul_assoc]; omega
          · rw [decide_eq_false (show ¬ 0 ≤ cmpN (2 * r + bt) (val b) by unfold cmpN; rw [if_pos (by omega)]; decide)]
            refine cndf ?_
            refine .gh (Gh.keep [0, 1, 7, 8, 9, 10] rfl) ?_
            refine .skip ?_
            refine ⟨rfl, 0, 2 * r + bt, by omega, ?_, by omega, rfl⟩
            rw [hT, Nat.add_zero, Nat.mul_assoc]; omega
        rintro _ _ ⟨rfl, g, r', w1, w2, w3, rfl⟩
        refine .region ?_
        refine mvd ?_
        refine mvd ?_
        refine cl (xs := [.sl (L (digs q)), .i .u32 ((g : Nat) : Int)]) ?_ (twice_fn (digs_ok q) (by omega) w1) Try.call54
        rw [val_digs]
        refine aso ?_
        refine RL.gh (Gh.frz (p := .t 7) rfl (fun _ _ h => by cases h)) ?_
        refine .nil ?_
        show AW _ _ _ _ _ _
        refine .region ?_
        refine mvd ?_
        refine su ((j : Int) - 1) ?_ ?_
        · omega
        refine asd ?_
        refine rn ?_
        refine .gh (Gh.keep [0, 1, 7, 8, 9] rfl) ?_
        exact ih (j, 2 * q + g, r') ⟨by dsimp only; omega, w2, w3⟩ (by dsimp only; omega)
    rintro _ _ rfl
    refine .seq ?_
    refine .region ?_
    refine mvd ?_
    refine mvd ?_
    refine asd ?_
    refine asd ?_
    refine asd ?_
    refine rn ?_
    refine .ret ?_
    exact ⟨by decide, by rw [remN, if_neg hD, decide_eq_true hD]; rfl, rfl, rfl, rfl⟩
end Go.FL
/-
  Long division: the guess, one round, the end: plain numbers.
-/
namespace Go.FL
open Go Go.Proofs

/-- The guess is right, or one too great. -/
theorem guess_ok {T V N D P lo lv g : Nat} (hT : T = lo + P * N) (hlo : lo < P) (hV : V = lv + P * D) (hlv : lv < P) (hD : 4294967296 ≤ D) (hTV : T < 4294967296 * V) (hg : g = min (N / D) 4294967295) : T / V ≤ g ∧ g ≤ T / V + 1 := by
  have hVpos : 0 < V := by
    have : P * 1 ≤ P * D := Nat.mul_le_mul_left _ (by omega)
    omega
  have hq1 : T / V ≤ 4294967295 := by
    have : T / V < 4294967296 := (Nat.div_lt_iff_lt_mul hVpos).2 hTV
    omega
  have hq2 : T / V ≤ N / D := by
    refine (Nat.le_div_iff_mul_le (by omega)).2 ?_
    have h1 : T / V * V ≤ T := Nat.div_mul_le_self _ _
    have h2 : T / V * (P * D) ≤ T / V * V := Nat.mul_le_mul_left _ (by omega)
    have h3 : P * (T / V * D) < P * (N + 1) := by
      have e1 : P * (T / V * D) = T / V * (P * D) := by grind
      have e2 : P * (N + 1) = P * N + P := by grind
      omega
    have := Nat.lt_of_mul_lt_mul_left h3
    omega
  have hgN : g ≤ N / D := by rw [hg]; exact Nat.min_le_left _ _
  have hgB : g ≤ 4294967295 := by rw [hg]; exact Nat.min_le_right _ _
  have hTg : T / V ≤ g := by rw [hg]; exact Nat.le_min.2 ⟨hq2, hq1⟩
  refine ⟨hTg, ?_⟩
  apply Classical.byContradiction
  intro hc
  obtain ⟨m, hgm⟩ := Nat.exists_eq_succ_of_ne_zero (show g ≠ 0 from fun h0 => hc (by rw [h0]; exact Nat.zero_le _))
  subst hgm
  have hm : T < m * V := (Nat.div_lt_iff_lt_mul hVpos).1 (Nat.lt_of_succ_lt_succ (Nat.lt_of_not_le hc))
  have h1 : (m + 1) * D ≤ N := (Nat.le_div_iff_mul_le (by omega)).1 hgN
  clear hg hq1 hq2 hTg hgN hc
  have h2 : P * ((m + 1) * D) ≤ P * N := Nat.mul_le_mul_left _ h1
  have h3 : m * V ≤ m * (P * (D + 1)) := Nat.mul_le_mul_left _ (by
    have e : P * (D + 1) = P * D + P := by grind
    omega)
  have h4 : P * ((m + 1) * D) < P * (m * (D + 1)) := by
    have e : P * (m * (D + 1)) = m * (P * (D + 1)) := by grind
    omega
  have h5 := Nat.lt_of_mul_lt_mul_left h4
  have e1 : (m + 1) * D = m * D + D := by grind
  have e2 : m * (D + 1) = m * D + m := by grind
  omega
/-- Without a loan, the guess was right. -/
theorem round0 {T V W g : Nat} (hV : 0 < V) (h : W + g * V = T) (hg : T / V ≤ g) : g = T / V ∧ W = T % V := by
  have h1 : g ≤ T / V := (Nat.le_div_iff_mul_le hV).2 (by omega)
  have h2 : g = T / V := by omega
  refine ⟨h2, ?_⟩
  have := Nat.div_add_mod T V
  rw [← h2, Nat.mul_comm] at this
  omega
/-- With one, it was one too great; adding gives what is left. -/
theorem round1 {T V W W' M e g : Nat} (hV : 0 < V) (h : W + g * V = T + M) (hW : W < M) (hg : g ≤ T / V + 1) (ha : W' + e * M = W + V) (hW' : W' < M) (hVM : V < M) : g - 1 = T / V ∧ W' = T % V ∧ 0 < g := by
  have hdm := Nat.div_add_mod T V
  have hml := Nat.mod_lt T hV
  have hdl := Nat.div_mul_le_self T V
  rw [Nat.mul_comm] at hdm
  generalize T / V = Q at *
  generalize T % V = R at *
  have h1 : Q < g := by
    apply Classical.byContradiction
    intro hc
    have : g * V ≤ Q * V := Nat.mul_le_mul_right _ (by omega)
    omega
  have h2 : g = Q + 1 := by omega
  subst h2
  rw [Nat.add_mul, Nat.one_mul] at h
  have h3 : W' + e * M = M + R := by omega
  have he : e = 1 := by
    match e with
    | 0 => simp at h3; omega
    | 1 => rfl
    | e + 2 =>
      have : 2 * M ≤ (e + 2) * M := Nat.mul_le_mul_right _ (by omega)
      omega
  subst he
  exact ⟨by omega, by omega, by omega⟩

theorem val_split (u : List Nat) (i : Nat) (hi : i ≤ u.length) : val u = val (u.take i) + 4294967296 ^ i * val (u.drop i) := by
  conv => lhs; rw [← List.take_append_drop i u]
  rw [val_append, List.length_take, Nat.min_eq_left hi]
theorem val_zero_drop {u : List Nat} {k : Nat} (hk : k ≤ u.length) (h : val u < 4294967296 ^ k) : val (u.drop k) = 0 := by
  rw [val_split u k hk] at h
  apply Classical.byContradiction
  intro hc
  have : 4294967296 ^ k * 1 ≤ 4294967296 ^ k * val (u.drop k) := Nat.mul_le_mul_left _ (by omega)
  omega
theorem val_lt_of {u : List Nat} {k : Nat} (hu : Ok u) (hk : k ≤ u.length) (h : val (u.drop k) = 0) : val u < 4294967296 ^ k := by
  rw [val_split u k hk, h, Nat.mul_zero, Nat.add_zero]
  have := val_lt (hu.take k)
  rwa [List.length_take, Nat.min_eq_left hk] at this
/-- Three limbs at a place, and nothing behind them. -/
theorem three_at {u : List Nat} {j : Nat} (h : j + 3 ≤ u.length) (hz : val (u.drop (j + 3)) = 0) :
    val u = val (u.take j) + 4294967296 ^ j * ((u.getD (j + 2) 0 * 4294967296 + u.getD (j + 1) 0) * 4294967296 + u.getD j 0) := by
  rw [val_split u j (by omega), drop_val j, drop_val (j + 1), drop_val (j + 2), hz]
  congr 2
  omega
theorem two_at {v : List Nat} {j : Nat} (h : v.length = j + 2) : val v = val (v.take j) + 4294967296 ^ j * (v.getD (j + 1) 0 * 4294967296 + v.getD j 0) := by
  rw [val_split v j (by omega), drop_val j, drop_val (j + 1), List.drop_eq_nil_of_le (show v.length ≤ j + 1 + 1 by omega)]
  congr 2
  simp only [val]; omega
theorem take_lt {u : List Nat} {j : Nat} (hu : Ok u) (hj : j ≤ u.length) : val (u.take j) < 4294967296 ^ j := by
  have := val_lt (hu.take j)
  rwa [List.length_take, Nat.min_eq_left hj] at this
/-- What the guess is asked of. -/
theorem top_ok {T V P N D lo lv u2 u1 u0 v1 v0 : Nat} (hT : T = lo + P * N) (hV : V = lv + P * D) (hlv : lv < P) (hTV : T < 4294967296 * V) (hN : N = (u2 * 4294967296 + u1) * 4294967296 + u0) (hD : D = v1 * 4294967296 + v0) (h0 : v0 < 4294967296) : u2 ≤ v1 := by
  have h1 : P * N < P * (4294967296 * (D + 1)) := by
    have e : P * (4294967296 * (D + 1)) = 4294967296 * (P * D + P) := by grind
    omega
  have h2 := Nat.lt_of_mul_lt_mul_left h1
  omega

/-- Added from a place on. -/
def addGo : List Nat → List Nat → Nat → Nat → List Nat × Nat
  | [], u, c, _ => (u, c)
  | y :: r, u, c, j => addGo r (u.set j ((u.getD j 0 + y + c) % 4294967296)) ((u.getD j 0 + y + c) / 4294967296) (j + 1)
theorem addGo_cons (y : Nat) (r u : List Nat) (c j : Nat) : addGo (y :: r) u c j = addGo r (u.set j ((u.getD j 0 + y + c) % 4294967296)) ((u.getD j 0 + y + c) / 4294967296) (j + 1) := rfl
theorem addGo_step {V' V P x y c c' r R F Z : Nat} (hs : V' + x * P = V + r * P) (hc : x + y + c = 4294967296 * c' + r) (ih : F + Z = V' + (R + c') * (P * 4294967296)) : F + Z = V + (y + 4294967296 * R + c) * P := by
  grind
theorem addGo_val : ∀ (v u : List Nat) (c j : Nat), Ok v → Ok u → c ≤ 1 → j + v.length ≤ u.length →
    val (addGo v u c j).1 + (addGo v u c j).2 * 4294967296 ^ (j + v.length) = val u + (val v + c) * 4294967296 ^ j ∧ Ok (addGo v u c j).1 ∧ (addGo v u c j).2 ≤ 1 ∧ (addGo v u c j).1.length = u.length ∧
    (addGo v u c j).1.take j = u.take j ∧ (addGo v u c j).1.drop (j + v.length) = u.drop (j + v.length)
  | [], u, c, j, hv, hu, hc, hj => by simp [addGo, val, hu, hc]
  | y :: r, u, c, j, hv, hu, hc, hj => by
    simp only [addGo]
    have hj' : j + r.length + 1 ≤ u.length := by simpa [Nat.add_assoc] using hj
    have hx := getD_some (u := u) (j := j) (by omega)
    have hxl := getD_lt hu j
    have hyl := hv.head
    have hset := set_val hx (y := (u.getD j 0 + y + c) % 4294967296)
    have hcy : u.getD j 0 + y + c = 4294967296 * ((u.getD j 0 + y + c) / 4294967296) + (u.getD j 0 + y + c) % 4294967296 := (Nat.div_add_mod _ _).symm
    have hok := hu.set j (x := (u.getD j 0 + y + c) % 4294967296) (Nat.mod_lt _ (by decide))
    have hc' : (u.getD j 0 + y + c) / 4294967296 ≤ 1 := by omega
    generalize (u.getD j 0 + y + c) % 4294967296 = rr at *
    generalize (u.getD j 0 + y + c) / 4294967296 = c' at *
    generalize u.getD j 0 = x at *
    obtain ⟨i1, i2, i3, i4, i5, i6⟩ := addGo_val r (u.set j rr) c' (j + 1) hv.tail hok hc' (by rw [List.length_set]; omega)
    generalize addGo r (u.set j rr) c' (j + 1) = res at *
    rw [Nat.pow_succ] at i1
    refine ⟨?_, i2, i3, by rw [i4, List.length_set], ?_, ?_⟩
    · rw [val, show j + (y :: r).length = j + 1 + r.length by simp; omega]
      exact addGo_step hset hcy i1
    · have := congrArg (List.take j) i5
      rw [List.take_take, List.take_take, Nat.min_eq_left (by omega), List.take_set_of_le (Nat.le_refl _)] at this
      exact this
    · rw [show j + (y :: r).length = j + 1 + r.length by simp; omega, i6, List.drop_set_of_lt (by omega)]

/-- One round of the division. -/
theorem knuth_round {u v : List Nat} {i k : Nat} (hu : Ok u) (hv : Ok v) (hk : v.length = k + 2) (hi : i + k + 3 ≤ u.length) (hr : val (u.drop (i + 1)) < val v) (htop : 2147483648 ≤ v.getD (k + 1) 0) :
    u.getD (i + k + 2) 0 ≤ v.getD (k + 1) 0 ∧ val (u.drop i) < 4294967296 * val v ∧
    (∀ g, g = guessQ (u.getD (i + k + 2) 0) (u.getD (i + k + 1) 0) (u.getD (i + k) 0) (v.getD (k + 1) 0) (v.getD k 0) → val (u.drop i) / val v ≤ g ∧ g ≤ val (u.drop i) / val v + 1 ∧ g ≤ 4294967295) := by
  have hT : val (u.drop i) < 4294967296 * val v := by
    rw [drop_val i]
    have h1 := getD_lt hu i
    have : 4294967296 * (val (u.drop (i + 1)) + 1) ≤ 4294967296 * val v := Nat.mul_le_mul_left _ hr
    omega
  have hvl := val_lt hv
  rw [hk] at hvl
  have hTk : val (u.drop i) < 4294967296 ^ (k + 3) := by
    rw [show k + 3 = (k + 2) + 1 by omega, Nat.pow_succ, Nat.mul_comm]
    have : 4294967296 * val v < 4294967296 * 4294967296 ^ (k + 2) := Nat.mul_lt_mul_of_pos_left hvl (by decide)
    omega
  have hz := val_zero_drop (u := u.drop i) (k := k + 3) (by rw [List.length_drop]; omega) hTk
  have h3 := three_at (u := u.drop i) (j := k) (by rw [List.length_drop]; omega) hz
  have hg : ∀ m, (u.drop i).getD m 0 = u.getD (i + m) 0 := fun m => by rw [List.getD_eq_getElem?_getD, List.getElem?_drop, List.getD_eq_getElem?_getD]
  rw [hg, hg, hg] at h3
  have h2 := two_at hk
  have hlv := take_lt (j := k) hv (by omega)
  have hlu := take_lt (j := k) (hu.drop i) (by rw [List.length_drop]; omega)
  have hv0 := getD_lt hv k
  rw [show i + (k + 2) = i + k + 2 by omega, show i + (k + 1) = i + k + 1 by omega] at h3
  have htp := top_ok h3 h2 hlv hT rfl rfl hv0
  refine ⟨htp, hT, fun g hgq => ?_⟩
  obtain ⟨j1, j2⟩ := guess_ok (g := g) h3 hlu h2 hlv (by omega) hT hgq
  refine ⟨j1, j2, ?_⟩
  rw [hgq]; exact Nat.min_le_right _ _
theorem win_alg {lo P W g V T b M : Nat} (h1 : lo + P * W + (g * V + 0 + 0) * P = lo + P * T + b * (P * M)) : P * (W + g * V) = P * (T + b * M) := by
  grind
theorem win_add {lo P W T V c K x r e Z S : Nat} (h1 : Z + c * (P * K) = lo + P * T + V * P) (hset : lo + P * W + x * (P * K) = Z + r * (P * K)) (hdm : x + c = 4294967296 * e + r) (hS : S = K * 4294967296) : P * (W + e * S) = P * (T + V) := by
  grind
/-- The window behind 'take'. -/
theorem take_window {u v : List Nat} {i g : Nat} (hu : Ok u) (hv : Ok v) (hi : i + v.length < u.length) (hg : g < 4294967296) (hz : val (u.drop (i + v.length + 1)) = 0) :
    Ok (takeGo g v u 0 0 i).1 ∧ (takeGo g v u 0 0 i).1.length = u.length ∧ (takeGo g v u 0 0 i).1.take i = u.take i ∧ (takeGo g v u 0 0 i).2 ≤ 1 ∧ val ((takeGo g v u 0 0 i).1.drop (i + v.length + 1)) = 0 ∧
    val ((takeGo g v u 0 0 i).1.drop i) + g * val v = val (u.drop i) + (takeGo g v u 0 0 i).2 * 4294967296 ^ (v.length + 1) ∧ val ((takeGo g v u 0 0 i).1.drop i) < 4294967296 ^ (v.length + 1) := by
  obtain ⟨h1, h2, h3, h4, h5, h6⟩ := takeGo_val hg v u 0 0 i hv hu (by decide) (by decide) hi
  generalize takeGo g v u 0 0 i = res at *
  have hz' : val (res.1.drop (i + v.length + 1)) = 0 := by rw [h6]; exact hz
  refine ⟨h2, h4, h5, h3, hz', ?_, ?_⟩
  · rw [val_split u i (by omega), val_split res.1 i (by omega), h5, show i + v.length + 1 = i + (v.length + 1) by omega, Nat.pow_add] at h1
    have hp : 0 < 4294967296 ^ i := Nat.pow_pos (by decide)
    exact Nat.eq_of_mul_eq_mul_left hp (win_alg h1)
  · refine val_lt_of (h2.drop i) (by rw [List.length_drop]; omega) ?_
    rw [List.drop_drop, show i + (v.length + 1) = i + v.length + 1 by omega]
    exact hz'
/-- .. and behind adding. -/
theorem add_window {u v : List Nat} {i : Nat} (hu : Ok u) (hv : Ok v) (hi : i + v.length < u.length) (hz : val (u.drop (i + v.length + 1)) = 0) {w : List Nat} {c : Nat} (hw : addGo v u 0 i = (w, c)) {w' : List Nat}
    (hw' : w' = w.set (i + v.length) ((w.getD (i + v.length) 0 + c) % 4294967296)) : Ok w' ∧ w'.length = u.length ∧ w'.take i = u.take i ∧ c ≤ 1 ∧
    (∃ e, val (w'.drop i) + e * 4294967296 ^ (v.length + 1) = val (u.drop i) + val v) ∧ val (w'.drop i) < 4294967296 ^ (v.length + 1) := by
  obtain ⟨h1, h2, h3, h4, h5, h6⟩ := addGo_val v u 0 i hv hu (by decide) (by omega)
  rw [hw] at h1 h2 h3 h4 h5 h6
  dsimp only at h1 h2 h3 h4 h5 h6
  have hx := getD_some (u := w) (j := i + v.length) (by omega)
  have hset := set_val hx (y := (w.getD (i + v.length) 0 + c) % 4294967296)
  rw [← hw'] at hset
  have hdm : w.getD (i + v.length) 0 + c = 4294967296 * ((w.getD (i + v.length) 0 + c) / 4294967296) + (w.getD (i + v.length) 0 + c) % 4294967296 := (Nat.div_add_mod _ _).symm
  have hok : Ok w' := by rw [hw']; exact h2.set _ (Nat.mod_lt _ (by decide))
  have hlen : w'.length = u.length := by rw [hw', List.length_set, h4]
  have htk : w'.take i = u.take i := by rw [hw', List.take_set_of_le (by omega), h5]
  have hz' : val (w'.drop (i + v.length + 1)) = 0 := by
    rw [hw', List.drop_set_of_lt (by omega)]
    have : w.drop (i + v.length + 1) = u.drop (i + v.length + 1) := by
      have e1 : w.drop (i + v.length + 1) = (w.drop (i + v.length)).drop 1 := by rw [List.drop_drop]
      have e2 : u.drop (i + v.length + 1) = (u.drop (i + v.length)).drop 1 := by rw [List.drop_drop]
      rw [e1, e2, h6]
    rw [this]; exact hz
  refine ⟨hok, hlen, htk, h3, ⟨(w.getD (i + v.length) 0 + c) / 4294967296, ?_⟩, ?_⟩
  · clear hw hw' hx
    generalize (w.getD (i + v.length) 0 + c) / 4294967296 = e at *
    generalize (w.getD (i + v.length) 0 + c) % 4294967296 = r at *
    generalize w.getD (i + v.length) 0 = x at *
    rw [val_split u i (by omega)] at h1
    rw [val_split w' i (by omega), htk] at hset
    rw [Nat.add_zero, Nat.pow_add] at h1
    rw [Nat.pow_add] at hset
    have hp : 0 < 4294967296 ^ i := Nat.pow_pos (by decide)
    exact Nat.eq_of_mul_eq_mul_left hp (win_add h1 hset hdm (Nat.pow_succ ..))
  · refine val_lt_of (hok.drop i) (by rw [List.length_drop]; omega) ?_
    rw [List.drop_drop, show i + (v.length + 1) = i + v.length + 1 by omega]
    exact hz'
end Go.FL
/-
  A FUNCTIONAL LOGIC, 32: a slice of the call's own is assigned where the order is drawn: it is looked at first, and taken over behind.
-/
namespace Go.FL
open Go Go.RowKit

section
variable {P : Program} {C : Cx} {X : Snap} {o : Oper} {ops : Array Oper} {Q : Exit → Env → Heap → Prop} {env env' : Env} {H H' : Heap} {a : Act} {w w' : World} {I I' : Nat → Prop} {μ μ' : List Nat} {O O' : Nat → Option Loc}

theorem vaso {s : Nat} {e : TypeId} {xs : List DV} (ho : o.op = .assign (.tmp s) := by rfl) (hv : get env s = .own e xs := by rfl) : VOK P C o env H (.ref (.t s) 0 xs.length) :=
  .rel (by simp [ho]) fun X a w I μ O _ hs => ⟨a.tmps.getD s undef, by simp [execOp, ho, Act.eval], rfl, RefRel.self (p := .t s) hs hv rfl⟩
theorem Gh.swap {s t : Nat} {e : TypeId} {xs : List DV} (h : get env t = .ref (.t s) 0 xs.length) (hp : get env s = .own e xs) (h0 : isOwn (get (put env s .un) t) = false) : Gh P C env H ((t, .own e xs) :: put env s .un) H := fun X a w I μ O _ _ _ hs => by
  have ht := hs.envr t
  rw [h] at ht
  obtain ⟨e', ys, A, n, c, q1, q2, q3, A', c', p1, p2, p3, p4⟩ := ht
  have : AV.own e xs = .own e' ys := hp.symm.trans q1
  cases this
  obtain ⟨rfl, rfl⟩ := p3 rfl
  simp only [plVal, Option.some.injEq] at q2
  obtain ⟨k1, bs, k2, k3, k4⟩ := hs.take s (by rw [hp]; rfl)
  rw [hp, q2] at k2
  have hn : n = xs.length := (own_cap k2).1
  subst hn
  rw [← p1] at k2
  exact ⟨I, _, k1.adopt k2 k3 k4 h0⟩
end
end Go.FL
/-
  nat.DivMod.
-/
namespace Go.FL
open Go Go.Proofs

theorem norm_ok {ys b : List Nat} {x n : Nat} (e : ys = b ++ [x]) (hb : Ok b) (hx : x ≠ 0) (hxl : x < 4294967296) (hn : n = 32 - bitsN x) : n < 32 ∧ val ys * 2 ^ n < 4294967296 ^ ys.length ∧ 4294967296 ^ b.length * 2147483648 ≤ val ys * 2 ^ n := by
  have hlx : bitsN x ≤ 32 := bitsN_iff.2 (by omega)
  obtain ⟨j, hj, hj1, hj2⟩ := bitsN_pos hx
  have hv : bitsN (val ys) = 32 * b.length + bitsN x := by rw [e]; exact bitsN_val hb hx
  have hlen : ys.length = b.length + 1 := by rw [e]; simp
  have hvp : val ys ≠ 0 := fun h0 => by rw [h0, show bitsN 0 = 0 from rfl] at hv; omega
  obtain ⟨m, hm, hm1, hm2⟩ := bitsN_pos hvp
  have hB : ∀ k, 4294967296 ^ k = 2 ^ (32 * k) := fun k => by rw [Nat.pow_mul]
  refine ⟨by omega, ?_, ?_⟩
  · rw [hB, hlen, show 32 * (b.length + 1) = (m + 1) + n by omega, Nat.pow_add]
    exact Nat.mul_lt_mul_of_pos_right hm2 (Nat.pow_pos (by decide))
  · rw [hB, show (2147483648 : Nat) = 2 ^ 31 by rfl, ← Nat.pow_add, show 32 * b.length + 31 = m + n by omega, Nat.pow_add]
    exact Nat.mul_le_mul_right _ hm1
theorem top_big {v : List Nat} {k : Nat} (hv : Ok v) (hk : v.length = k + 1) (h : 4294967296 ^ k * 2147483648 ≤ val v) : 2147483648 ≤ v.getD k 0 := by
  have h1 := take_lt (j := k) hv (by omega)
  have h2 := val_split v k (by omega)
  rw [drop_val, List.drop_eq_nil_of_le (by omega)] at h2
  simp only [val, Nat.mul_zero, Nat.add_zero] at h2
  apply Classical.byContradiction
  intro hc
  have h3 : 4294967296 ^ k * (v.getD k 0 + 1) ≤ 4294967296 ^ k * 2147483648 := Nat.mul_le_mul_left _ (by omega)
  rw [Nat.mul_add, Nat.mul_one] at h3
  omega
theorem div_end {R D E Q A : Nat} (hE : 0 < E) (h : R + D * E * Q = A * E) (hR : R < D * E) : A / D = Q ∧ R / E = A % D ∧ 0 < D := by
  have hD : 0 < D := by
    rcases Nat.eq_zero_or_pos D with h0 | h0
    · subst h0; simp at hR
    · exact h0
  have e1 : D * E * Q = (D * Q) * E := by grind
  rw [e1] at h
  have hle : D * Q ≤ A := by
    have : (D * Q) * E ≤ A * E := by omega
    exact Nat.le_of_mul_le_mul_right this hE
  obtain ⟨r, rfl⟩ := Nat.exists_eq_add_of_le hle
  rw [Nat.add_mul] at h
  have hr : R = r * E := by omega
  rw [hr] at hR
  have hrD : r < D := Nat.lt_of_mul_lt_mul_right hR
  refine ⟨?_, ?_, hD⟩
  · rw [Nat.mul_add_div hD, Nat.div_eq_of_lt hrD, Nat.add_zero]
  · rw [hr, Nat.mul_div_cancel _ hE, Nat.mul_add_mod, Nat.mod_eq_of_lt hrD]
theorem start_ok {xs : List Nat} {n m V k : Nat} (hx : Ok xs) (hn : n < 32) (hm : xs.length = m + k) (hV : 4294967296 ^ k * 2147483648 ≤ V) {u : List Nat} (hu : val u = val xs * 2 ^ n) (hl : m ≤ u.length) : val (u.drop m) < V := by
  rw [val_split u m hl] at hu
  have h1 := val_lt hx
  rw [hm, Nat.pow_add] at h1
  have h2 : (2 : Nat) ^ n ≤ 2147483648 := Nat.pow_le_pow_right (n := 2) (by decide) (show n ≤ 31 by omega)
  have h3 : val xs * 2 ^ n < 4294967296 ^ m * 4294967296 ^ k * 2 ^ n := Nat.mul_lt_mul_of_pos_right h1 (Nat.pow_pos (by decide))
  have h4 : 4294967296 ^ m * 4294967296 ^ k * 2 ^ n ≤ 4294967296 ^ m * (4294967296 ^ k * 2147483648) := by
    rw [Nat.mul_assoc]
    exact Nat.mul_le_mul_left _ (Nat.mul_le_mul_left _ h2)
  have h5 : 4294967296 ^ m * (4294967296 ^ k * 2147483648) ≤ 4294967296 ^ m * V := Nat.mul_le_mul_left _ hV
  have h6 : 4294967296 ^ m * val (u.drop m) < 4294967296 ^ m * V := by omega
  exact Nat.lt_of_mul_lt_mul_left h6
theorem total_step {lo P T V Q U Z W : Nat} (h : lo + P * T + V * Z = U) (hT : T = V * Q + W) {Z' : Nat} (hZ : Z' + 0 * P = Z + Q * P) : lo + P * W + V * Z' = U := by
  grind
theorem L_rep (n : Nat) : L (List.replicate n 0) = List.replicate n (U 0) := by simp [L]

theorem DivMod_fn {a b : List Nat} (ha : Ok a) (hb : Ok b) (hla : a.length ≤ 500000) (hlb : b.length ≤ 500000) : Fn Try.prog 14 [.sl (L a), .sl (L b)]
    (.tup [.d (.sl (L (digs (val a / val b)))), .d (.sl (L (digs (remN (val a) (val b))))), .d (.b (decide (val b ≠ 0)))]) := by
  have oa := digs_ok (val a)
  have ob := digs_ok (val b)
  have va := val_digs (val a)
  have vb := val_digs (val b)
  have la := Nat.le_trans (digs_len_le ha) hla
  have lb := Nat.le_trans (digs_len_le hb) hlb
  have hspl := @digs_split (val b)
  have hlt := @digs_lt (val a) (val b)
  have hnil := @digs_nil_iff (val b)
  refine Fn.of (rs := [.tmp 4, .tmp 5, .tmp 6]) (nt := 163) Try.func14 rfl rfl rfl (by simp) rfl ?_
  refine .seq ?_
  refine .region ?_
  refine asn ?_
  refine asn ?_
  refine asd ?_
  refine rn ?_
  refine .seq ?_
  refine .region ?_
  refine mvd ?_
  refine cl (xs := [.sl (L a)]) ?_ (cut_val ha (by omega)) Try.call46
  refine mvd ?_
  refine cl (xs := [.sl (L b)]) ?_ (cut_val hb (by omega)) Try.call46
  refine asd ?_
  refine asd ?_
  refine rn ?_
  generalize digs (val a) = xs at *
  generalize digs (val b) = ys at *
  refine .gh (Gh.keep [0, 1, 4, 5, 6] rfl) ?_
  refine .mid (fun e H' => H' = [] ∧ 2 ≤ ys.length ∧ ys.length ≤ xs.length ∧ e = [(0, .d (.sl (L xs))), (1, .d (.sl (L ys)))]) ?_ ?_
  · refine .block ?_
    refine .seq ?_
    refine .region ?_
    refine mvd ?_
    refine ln ?_ (L_sz _) l32
    refine bi ?_
    refine asd ?_
    refine rn ?_
    by_cases h0 : val b = 0
    · have hy := hnil.2 h0
      subst hy
      refine cndt ?_
      refine .seq ?_
      refine .region ?_
      refine asn ?_
      refine asn ?_
      refine asd ?_
      refine rn ?_
      refine .gh (Gh.nlD (t := 4) rfl) ?_
      refine .gh (Gh.nlD (t := 5) rfl) ?_
      refine .ret ?_
      refine ⟨by decide, ?_, rfl, rfl, rfl⟩
      rw [h0]
      simp [remN, digs_zero]; exact ⟨rfl, rfl, rfl⟩
    · obtain ⟨bb, x, hyx, hx0, hbb, hxl⟩ := hspl h0
      have hyl : ys.length = bb.length + 1 := by rw [hyx]; simp
      rw [decide_eq_false (show ¬ (((L ys).length : Nat) : Int) = 0 by rw [L_length]; omega)]
      refine cndf ?_
      refine .seq ?_
      refine .region ?_
      refine mvd ?_
      refine ln ?_ (L_sz _) l32
      refine bi ?_
      refine asd ?_
      refine rn ?_
      by_cases h1 : ys.length = 1
      · have hbb0 : bb = [] := List.length_eq_zero_iff.1 (by omega)
        rw [hbb0, List.nil_append] at hyx
        have hvx : val b = x := by rw [← vb, hyx]; simp [val]
        rw [decide_eq_true (show (((L ys).length : Nat) : Int) = 1 by rw [L_length]; omega)]
        have hy0 : ys[0]? = some (val b) := by rw [hyx, hvx]; rfl
        have fsm := small_fn (a := xs) (d := val b) oa (by omega) (by omega) (by omega)
        rw [va] at fsm
        refine cndt ?_
        refine .seq ?_
        refine .region ?_
        refine mvd ?_
        refine mvd ?_
        refine ix 0 ?_ rfl (L_at hy0) rfl s32
        refine ldp ?_ a32
        refine cl (xs := [.sl (L xs), U (val b)]) ?_ fsm Try.call47
        refine mvt ?_
        refine ex ?_
        refine ex ?_
        refine asd ?_
        refine asd ?_
        refine rn ?_
        refine .seq ?_
        refine .region ?_
        refine mvd ?_
        refine mvd ?_
        refine asd ?_
        refine asd ?_
        refine asd ?_
        refine rn ?_
        refine .ret ?_
        exact ⟨by decide, by rw [remN, if_neg h0, decide_eq_true h0]; rfl, rfl, rfl, rfl⟩
      · rw [decide_eq_false (show ¬ (((L ys).length : Nat) : Int) = 1 by rw [L_length]; omega)]
        refine cndf ?_
        refine .seq ?_
        refine .region ?_
        refine mvd ?_
        refine ln ?_ (L_sz _) l32
        refine mvd ?_
        refine ln ?_ (L_sz _) l32
        refine bi ?_
        refine asd ?_
        refine rn ?_
        by_cases h2 : xs.length < ys.length
        · have hab := hlt h2
          rw [decide_eq_true (show (((L xs).length : Nat) : Int) < ((L ys).length : Nat) by rw [L_length, L_length]; omega)]
          have ft := Trim_fn (a := xs) oa (by omega)
          rw [va] at ft
          refine cndt ?_
          refine .seq ?_
          refine .region ?_
          refine mvd ?_
          refine cl (xs := [.sl (L xs)]) ?_ ft Try.call26
          refine asn ?_
          refine aso ?_
          refine asd ?_
          refine rn ?_
          refine .gh (Gh.nlD (t := 4) rfl) ?_
          refine .gh (Gh.frz (p := .t 5) rfl (fun _ _ h => by cases h)) ?_
          refine .ret ?_
          refine ⟨by decide, ?_, rfl, rfl, rfl⟩
          rw [remN, if_neg h0, decide_eq_true h0, Nat.div_eq_of_lt hab, Nat.mod_eq_of_lt hab, digs_zero]; rfl
        · rw [decide_eq_false (show ¬ (((L xs).length : Nat) : Int) < ((L ys).length : Nat) by rw [L_length, L_length]; omega)]
          refine cndf ?_
          refine .gh (Gh.keep [0, 1] rfl) ?_
          refine .skip ?_
          exact ⟨rfl, by omega, by omega, rfl⟩
  rintro _ _ ⟨rfl, hy2, hyx, rfl⟩
  have h0 : val b ≠ 0 := fun h => by have := hnil.2 h; rw [this] at hy2; simp at hy2
  obtain ⟨bb, x, hys, hx0, hbb, hxl⟩ := hspl h0
  obtain ⟨k, hk⟩ : ∃ k, ys.length = k + 2 := ⟨ys.length - 2, by omega⟩
  have hyl : bb.length = k + 1 := by rw [hys] at hk; simp at hk; omega
  obtain ⟨m0, hm0⟩ : ∃ m0, xs.length = m0 + (k + 2) := ⟨xs.length - (k + 2), by omega⟩
  obtain ⟨n, hn⟩ : ∃ n, n = 32 - bitsN x := ⟨_, rfl⟩
  obtain ⟨hn32, hV1, hV2⟩ := norm_ok hys hbb hx0 hxl hn
  have hxat : ys[k + 1]? = some x := by rw [hys, ← hyl]; simp
  have flz := LeadingZeros32_fn hxl
  rw [← hn] at flz
  have fsx := shifted_fn (a := xs) (n := n) oa (by omega) hn32
  have fsy := shifted_fn (a := ys) (n := n) ob (by omega) hn32
  obtain ⟨ux1, ux2⟩ := shL_val hn32 xs 0 oa (Nat.pow_pos (by decide))
  obtain ⟨uy1, uy2⟩ := shL_val hn32 ys 0 ob (Nat.pow_pos (by decide))
  have ux3 := shL_length n xs 0
  have uy3 := shL_length n ys 0
  rw [Nat.zero_add] at ux1 uy1
  generalize shL n 0 xs = u0 at *
  generalize shL n 0 ys = w0 at *
  have hvz := val_zero_drop (u := w0) (k := ys.length) (by omega) (by rw [uy1]; exact hV1)
  have hvv : val (w0.take ys.length) = val b * 2 ^ n := by
    have := val_split w0 ys.length (by omega)
    rw [hvz, Nat.mul_zero, Nat.add_zero, uy1, vb] at this
    exact this.symm
  have ov := uy2.take ys.length
  have lv : (w0.take ys.length).length = k + 2 := by rw [List.length_take]; omega
  generalize hvdef : w0.take ys.length = v at *
  rw [vb, hyl] at hV2
  rw [vb, hk] at hV1
  rw [va] at ux1
  have htop := top_big ov (show v.length = (k + 1) + 1 by omega) (by rw [hvv]; exact hV2)
  have hst := start_ok (V := val v) (m := m0 + 1) (k := k + 1) oa hn32 (by omega) (by rw [hvv]; exact hV2) (by rw [ux1, va]) (u := u0) (by omega)
  have hVpos : 0 < val v := by rw [hvv]; exact Nat.mul_pos (by omega) (Nat.pow_pos (by decide))
  have e2n : 0 < 2 ^ n := Nat.pow_pos (by decide)
  have hvlen : val v < 4294967296 ^ (k + 2) := by rw [hvv]; exact hV1
  have hdend : ∀ R Q, R + val v * Q = val a * 2 ^ n → R < val v → val a / val b = Q ∧ R / 2 ^ n = val a % val b := fun R Q h1 h2 => by
    rw [hvv] at h1 h2
    obtain ⟨e1, e2, _⟩ := div_end e2n h1 h2
    exact ⟨e1, e2⟩
  clear hspl hlt hnil hV2 hvz hV1 hvv uy1 vb va
  refine .seq ?_
  refine .region ?_
  refine mvd ?_
  refine mvd ?_
  refine ln ?_ (L_sz _) l32
  refine su ((k + 1 : Nat) : Int) ?_ ?_
  · rw [L_length]; omega
  refine ix (k + 1) ?_ rfl (L_at hxat) rfl s32
  refine ldp ?_ a32
  refine cl (xs := [.i .u32 (x : Int)]) ?_ flz Try.call48
  refine asd ?_
  refine rn ?_
  refine .gh (Gh.keep [0, 1, 7] rfl) ?_
  refine .seq ?_
  refine .drawn 10 mixed (by kernel_rfl) ?_
  refine dv vmvd ?_
  refine dv vmvd ?_
  refine dv (v := .own 49 (L u0)) (vcl (xs := [.sl (L xs), .i .i64 (n : Int)]) (r := .own 49 (L u0)) fsx Try.call49) ?_
  refine dv vmvd ?_
  refine dv vmvd ?_
  refine dv (v := .d (.sl (L w0))) (vcl (xs := [.sl (L ys), .i .i64 (n : Int)]) (r := .own 49 (L w0)) fsy Try.call49).deep ?_
  refine dv vmvd ?_
  refine dv (vln (L_sz _) l32) ?_
  refine dv (vsl 0 ys.length ?_ (L_sz1 _) s32) ?_
  · rw [L_length, L_length]; omega
  refine dv vaso ?_
  refine dz ?_
  refine asd ?_
  refine RL.gh (Gh.swap (s := 55) (t := 8) rfl rfl rfl) ?_
  refine rn ?_
  rw [List.drop_zero, Nat.sub_zero, L_take, hvdef]
  refine .gh (Gh.keep [0, 7, 8, 9] rfl) ?_
  refine .seq ?_
  refine .region ?_
  refine mvd ?_
  refine ln ?_ (L_sz _) l32
  refine asd ?_
  refine rn ?_
  refine .seq ?_
  refine .region ?_
  refine mvd ?_
  refine ln ?_ (L_sz _) l32
  refine mvd ?_
  refine su (m0 : Int) ?_ ?_
  · rw [L_length, L_length]; omega
  refine ad ((m0 + 1 : Nat) : Int) ?_ ?_
  · omega
  refine mk (m0 + 1) ⟨rfl, rfl⟩ ?_ ?_ e32 rfl
  · omega
  refine aso ?_
  refine rn ?_
  refine .mid (fun e H' => ∃ u q, Ok u ∧ Ok q ∧ u.length = u0.length ∧ q.length = m0 + 1 ∧ val u + val v * val q = val a * 2 ^ n ∧ val u < val v ∧ e = [(4, .own 49 (L q)), (7, .d (.i .i64 (n : Int))), (8, .own 49 (L u)), (10, .d (.i .i64 ((L v).length : Nat)))]) ?_ ?_
  · refine .seq ?_
    refine .region ?_
    refine mvd ?_
    refine ln ?_ (L_sz _) l32
    refine mvd ?_
    refine su (m0 : Int) ?_ ?_
    · rw [L_length, L_length]; omega
    refine asd ?_
    refine rn ?_
    refine .block ?_
    refine .loop (.gh (Gh.keep [4, 7, 8, 9, 10, 11] rfl) ?_)
    refine AL.cast (env' := [(4, .own 49 (L (List.replicate (m0 + 1) 0))), (7, .d (.i .i64 (n : Int))), (8, .own 49 (L u0)), (9, .d (.sl (L v))), (10, .d (.i .i64 ((L v).length : Nat))), (11, .d (.i .i64 (((m0 + 1 : Nat) : Int) - 1)))]) (by rw [L_rep, show ((m0 + 1 : Nat) : Int) - 1 = (m0 : Int) by omega]; rfl) ?_
    refine AL.ind (σ := Nat × List Nat × List Nat × Heap) (m := fun s => s.1) (e := fun s => [(4, .own 49 (L s.2.2.1)), (7, .d (.i .i64 (n : Int))), (8, .own 49 (L s.2.1)), (9, .d (.sl (L v))), (10, .d (.i .i64 ((L v).length : Nat))), (11, .d (.i .i64 ((s.1 : Int) - 1)))]) (h := fun s => s.2.2.2)
      (I := fun s => s.1 ≤ m0 + 1 ∧ Ok s.2.1 ∧ Ok s.2.2.1 ∧ s.2.1.length = u0.length ∧ s.2.2.1.length = m0 + 1 ∧ val s.2.1 + val v * val s.2.2.1 = val a * 2 ^ n ∧ val (s.2.1.drop s.1) < val v ∧ ∀ j, j < s.1 → s.2.2.1[j]? = some 0) ?_ (m0 + 1, u0, List.replicate (m0 + 1) 0, []) ⟨Nat.le_refl _, ux2, rep_ok _, rfl, by simp, by simp [rep_val, ux1], hst, fun j hj => by
      dsimp only at hj ⊢
      rw [List.getElem?_replicate, if_pos hj]⟩
    rintro ⟨m, u, q, G⟩ ⟨h1, h2, h3, h4, h5, h6, h7, h8⟩ ih
    dsimp only at h1 h2 h3 h4 h5 h6 h7 h8 ih ⊢
    refine .seq ?_
    refine .seq ?_
    refine .region ?_
    refine mvd ?_
    refine bi ?_
    refine rn ?_
    cases m with
    | zero =>
      rw [decide_eq_false (show ¬ (0 : Int) ≤ ((0 : Nat) : Int) - 1 by omega)]
      refine cndf ?_
      refine .gh (Gh.keep [4, 7, 8, 10] rfl) ?_
      refine .exit ?_
      exact ⟨u, q, h2, h3, h4, h5, h6, by simpa using h7, rfl⟩
    | succ i =>
      rw [decide_eq_true (show (0 : Int) ≤ ((i + 1 : Nat) : Int) - 1 by omega)]
      obtain ⟨t1, t2, t3⟩ := knuth_round (u := u) (v := v) (i := i) (k := k) h2 ov lv (by omega) h7 htop
      obtain ⟨g1, g2, g3⟩ := t3 _ rfl
      have fg := guess_fn t1 (getD_lt h2 (i + k + 1)) (getD_lt h2 (i + k)) (getD_lt ov (k + 1)) (getD_lt ov k) (by omega)
      have hx2 := getD_some (u := u) (j := i + k + 2) (by omega)
      have hx1 := getD_some (u := u) (j := i + k + 1) (by omega)
      have hx0' := getD_some (u := u) (j := i + k) (by omega)
      have hy1 := getD_some (u := v) (j := k + 1) (by omega)
      have hy0 := getD_some (u := v) (j := k) (by omega)
      have hzd : val (u.drop (i + v.length + 1)) = 0 := by
        have h9 := val_zero_drop (u := u.drop (i + 1)) (k := k + 2) (by rw [List.length_drop]; omega) (by omega)
        rw [List.drop_drop] at h9
        rw [lv, show i + (k + 2) + 1 = i + 1 + (k + 2) by omega]; exact h9
      generalize guessQ (u.getD (i + k + 2) 0) (u.getD (i + k + 1) 0) (u.getD (i + k) 0) (v.getD (k + 1) 0) (v.getD k 0) = g at *
      have ftk := take_fn (H := G) (u0 := u) (v := v) (q := g) (at0 := i) h2 ov (by omega) (by omega) (by omega)
      obtain ⟨w1, w2, w3, w4, w5, w6, w7⟩ := take_window (u := u) (v := v) (i := i) (g := g) h2 ov (by omega) (by omega) hzd
      generalize hres : takeGo g v u 0 0 i = res at *
      obtain ⟨u1, bf⟩ := res
      dsimp only at w1 w2 w3 w4 w5 w6 w7 ftk
      generalize u.getD (i + k + 2) 0 = x2 at *
      generalize u.getD (i + k + 1) 0 = x1 at *
      generalize u.getD (i + k) 0 = x0 at *
      generalize v.getD (k + 1) 0 = y1 at *
      generalize v.getD k 0 = y0 at *
      clear t1 t2 t3 hres
      refine cndt ?_
      refine .skip ?_
      show AW _ _ _ _ _ _
      refine .gh (Gh.keep [4, 7, 8, 9, 10, 11] rfl) ?_
      refine .seq ?_
      refine .block ?_
      refine .seq ?_
      refine .drawn 31 mixed (by kernel_rfl) ?_
      refine dv vmvo ?_
      refine dv vmvd ?_
      refine dv vmvd ?_
      refine dv (vad ((i + k + 2 : Nat) : Int) ?_) ?_
      · rw [L_length]; omega
      refine dv (vixr (i + k + 2) ?_ ?_ s32 (by decide)) ?_
      · rfl
      · rw [L_length]; omega
      refine dv (vlde (U x2) ?_ a32) ?_
      · rw [Nat.zero_add]; exact L_at' hx2
      refine dv vmvo ?_
      refine dv vmvd ?_
      refine dv vmvd ?_
      refine dv (vad ((i + k + 2 : Nat) : Int) ?_) ?_
      · rw [L_length]; omega
      refine dv (vsu ((i + k + 1 : Nat) : Int) ?_) ?_
      · omega
      refine dv (vixr (i + k + 1) ?_ ?_ s32 (by decide)) ?_
      · rfl
      · rw [L_length]; omega
      refine dv (vlde (U x1) ?_ a32) ?_
      · rw [Nat.zero_add]; exact L_at' hx1
      refine dv vmvo ?_
      refine dv vmvd ?_
      refine dv vmvd ?_
      refine dv (vad ((i + k + 2 : Nat) : Int) ?_) ?_
      · rw [L_length]; omega
      refine dv (vsu ((i + k : Nat) : Int) ?_) ?_
      · omega
      refine dv (vixr (i + k) ?_ ?_ s32 (by decide)) ?_
      · rfl
      · rw [L_length]; omega
      refine dv (vlde (U x0) ?_ a32) ?_
      · rw [Nat.zero_add]; exact L_at' hx0'
      refine dv vmvd ?_
      refine dv vmvd ?_
      refine dv (vsu ((k + 1 : Nat) : Int) ?_) ?_
      · rw [L_length]; omega
      refine dv (vix (k + 1) rfl (L_at hy1) rfl s32) ?_
      refine dv (vldp a32) ?_
      refine dv vmvd ?_
      refine dv vmvd ?_
      refine dv (vsu ((k : Nat) : Int) ?_) ?_
      · rw [L_length]; omega
      refine dv (vix k rfl (L_at hy0) rfl s32) ?_
      refine dv (vldp a32) ?_
      refine dv (v := .d (.i .u64 (g : Int))) (vcl (xs := [U x2, U x1, U x0, U y1, U y0]) (r := .d (.i .u64 (g : Int))) fg Try.call50) ?_
      refine dz ?_
      refine asd ?_
      refine rn ?_
      refine .gh (Gh.keep [4, 7, 8, 9, 10, 11, 12] rfl) ?_
      rw [show ((i + 1 : Nat) : Int) - 1 = (i : Int) by omega]
      refine .mid (fun e H' => ∃ u', Ok u' ∧ u'.length = u.length ∧ u'.take i = u.take i ∧ val (u'.drop i) = val (u.drop i) % val v ∧ e = [(4, .own 49 (L q)), (7, .d (.i .i64 (n : Int))), (8, .own 49 (L u')), (9, .d (.sl (L v))), (10, .d (.i .i64 ((L v).length : Nat))), (11, .d (.i .i64 (i : Int))), (12, .d (.i .u64 ((val (u.drop i) / val v : Nat) : Int)))]) ?_ ?_
      · refine .seq ?_
        refine .region ?_
        refine mvo ?_
        refine mvd ?_
        refine mvd ?_
        refine mvd ?_
        refine clg1 (L u1) (fun G2 => ?_) ftk Try.call51
        refine bi ?_
        refine rn ?_
        by_cases hbf : bf = 0
        · subst hbf
          obtain ⟨r1, r2⟩ := round0 (g := g) (W := val (u1.drop i)) hVpos (by simpa using w6) g1
          rw [decide_eq_false (show ¬ (0 : Int) < ((0 : Nat) : Int) by omega)]
          refine cndf ?_
          refine .gh (Gh.keep [4, 7, 8, 9, 10, 11, 12] rfl) ?_
          refine .skip ?_
          exact ⟨u1, w1, w2, w3, r2, by rw [← r1]; rfl⟩
        · have hbf1 : bf = 1 := by omega
          subst hbf1
          rw [decide_eq_true (show (0 : Int) < ((1 : Nat) : Int) by omega)]
          obtain ⟨ag, hag⟩ : ∃ ag, addGo v u1 0 i = ag := ⟨_, rfl⟩
          obtain ⟨wl, c⟩ := ag
          obtain ⟨z1, z2, z3, z4, ⟨ec, z5⟩, z6⟩ := add_window (u := u1) (v := v) (i := i) w1 ov (by omega) w5 hag rfl
          rw [Nat.one_mul] at w6
          obtain ⟨r1, r2, r3⟩ := round1 (T := val (u.drop i)) hVpos w6 w7 g2 z5 z6 (by rw [lv, Nat.pow_succ]; omega)
          have hwl := addGo_val v u1 0 i ov w1 (by decide) (by omega)
          rw [hag] at hwl
          obtain ⟨y1', y2', y3', y4', _, _⟩ := hwl
          dsimp only at y1' y2' y3' y4'
          have hxw := getD_some (u := wl) (j := i + v.length) (by omega)
          generalize wl.getD (i + v.length) 0 = xw at *
          refine cndt ?_
          refine .gh (Gh.keep [4, 7, 8, 9, 10, 11, 12] rfl) ?_
          refine .seq ?_
          refine .region ?_
          refine mvd ?_
          refine bie (.i .u64 ((g - 1 : Nat) : Int)) ?_ ?_
          · refine ⟨trivial, ?_⟩
            rw [show (g : Int) - 1 = ((g - 1 : Nat) : Int) by omega, toU64 (by omega)]
          refine asd ?_
          refine rn ?_
          rw [r1]
          refine .seq ?_
          refine .region ?_
          refine asd ?_
          refine rn ?_
          refine .mid (fun e H' => e = [(4, .own 49 (L q)), (7, .d (.i .i64 (n : Int))), (8, .own 49 (L wl)), (9, .d (.sl (L v))), (10, .d (.i .i64 ((L v).length : Nat))), (11, .d (.i .i64 (i : Int))), (12, .d (.i .u64 ((val (u.drop i) / val v : Nat) : Int))), (13, .d (.i .u32 (c : Int)))]) ?_ ?_
          · refine .seq ?_
            refine .region ?_
            refine mvd ?_
            refine ln ?_ (L_sz _) l32
            refine mvd ?_
            refine rn ?_
            refine .block ?_
            refine .loop (.gh (Gh.keep [4, 7, 8, 9, 10, 11, 12, 13, 117, 118, 119] rfl) ?_)
            refine AL.ind (σ := Nat × List Nat × Nat) (m := fun s => v.length - s.1) (e := fun s => [(4, .own 49 (L q)), (7, .d (.i .i64 (n : Int))), (8, .own 49 (L s.2.1)), (9, .d (.sl (L v))), (10, .d (.i .i64 ((L v).length : Nat))), (11, .d (.i .i64 (i : Int))), (12, .d (.i .u64 ((val (u.drop i) / val v : Nat) : Int))), (13, .d (.i .u32 (s.2.2 : Int))), (117, .d (.sl (L v))), (118, .d (.i .i64 ((L v).length : Nat))), (119, .d (.i .i64 (s.1 : Int)))]) (h := fun _ => G ++ G2)
              (I := fun s => s.1 ≤ v.length ∧ Ok s.2.1 ∧ s.2.1.length = u.length ∧ s.2.2 ≤ 1 ∧ addGo (v.drop s.1) s.2.1 s.2.2 (i + s.1) = (wl, c)) ?_ (0, u1, 0) ⟨Nat.zero_le _, w1, w2, by simp, hag⟩
            rintro ⟨j, uu, cc⟩ ⟨a1, a2', a3, a4, a5⟩ ih2
            dsimp only at a1 a2' a3 a4 a5 ih2 ⊢
            refine .seq ?_
            refine .region ?_
            refine bi ?_
            refine rn ?_
            refine .seq ?_
            by_cases hj : j < v.length
            · rw [decide_eq_true (show (j : Int) < ((L v).length : Nat) by rw [L_length]; omega)]
              have hyv : v[j]? = some v[j] := List.getElem?_eq_getElem hj
              have hdr : v.drop j = v[j] :: v.drop (j + 1) := List.drop_eq_getElem_cons hj
              generalize v[j] = yv at hyv hdr
              rw [hdr, addGo_cons] at a5
              have hyvl := ov.at hyv
              have hxv := getD_some (u := uu) (j := i + j) (by omega)
              have hxvl := getD_lt a2' (i + j)
              have fadd := Add32_fn hxvl hyvl (show cc < 4294967296 by omega)
              have hrr : (uu.getD (i + j) 0 + yv + cc) % 4294967296 < 4294967296 := Nat.mod_lt _ (by decide)
              have hc1 : (uu.getD (i + j) 0 + yv + cc) / 4294967296 ≤ 1 := by omega
              generalize (uu.getD (i + j) 0 + yv + cc) % 4294967296 = rr at *
              generalize (uu.getD (i + j) 0 + yv + cc) / 4294967296 = c' at *
              generalize uu.getD (i + j) 0 = xv at *
              refine cndt ?_
              refine .skip ?_
              show AW _ _ _ _ _ _
              refine .seq ?_
              refine .block ?_
              refine .seq ?_
              refine .region ?_
              refine mvd ?_
              refine ix j ?_ rfl (L_at hyv) rfl s32
              refine ldp ?_ a32
              refine asd ?_
              refine asd ?_
              refine rn ?_
              refine .region ?_
              refine mvo ?_
              refine mvd ?_
              refine mvd ?_
              refine ad ((i + j : Nat) : Int) ?_ ?_
              · omega
              refine mvo ?_
              refine mvd ?_
              refine mvd ?_
              refine ad ((i + j : Nat) : Int) ?_ ?_
              · omega
              refine ixr (i + j) ?_ ?_ ?_ s32 (by decide)
              · rfl
              · rw [L_length]; omega
              refine lde (U xv) ?_ ?_ a32
              · rw [Nat.zero_add]; exact L_at' hxv
              refine mvd ?_
              refine mvd ?_
              refine cl (xs := [U xv, U yv, U cc]) ?_ fadd Try.call52
              refine mvt ?_
              refine ex ?_
              refine ex ?_
              refine ixr (i + j) ?_ ?_ ?_ s32 (by decide)
              · rfl
              · rw [L_length]; omega
              refine ste ?_ ?_ z32
              · rw [Nat.zero_add]; exact L_leaf hxv
              refine asd ?_
              refine .nil ?_
              show AW _ _ _ _ _ _
              refine .region ?_
              refine ad ((j + 1 : Nat) : Int) ?_ ?_
              · omega
              refine mvd ?_
              refine rn ?_
              refine .gh (Gh.keep [4, 7, 8, 9, 10, 11, 12, 13, 117, 118, 119] rfl) ?_
              have := ih2 (j + 1, uu.set (i + j) rr, c') ⟨by dsimp only; omega, a2'.set _ hrr, by dsimp only; rw [List.length_set]; exact a3, hc1, a5⟩ (by dsimp only; omega)
              dsimp only at this
              rw [← L_set0] at this
              exact this
            · rw [decide_eq_false (show ¬ (j : Int) < ((L v).length : Nat) by rw [L_length]; omega)]
              refine cndf ?_
              refine .gh (Gh.keep [4, 7, 8, 9, 10, 11, 12, 13] rfl) ?_
              refine .exit ?_
              have hje : j = v.length := by omega
              subst hje
              rw [List.drop_eq_nil_of_le (Nat.le_refl _)] at a5
              have e1 : uu = wl ∧ cc = c := by simpa [addGo] using a5
              show _ = _
              rw [← e1.1, ← e1.2]; rfl
          rintro _ H3 rfl
          refine .region ?_
          refine mvo ?_
          refine mvd ?_
          refine mvd ?_
          refine ad ((i + v.length : Nat) : Int) ?_ ?_
          · rw [L_length]; omega
          refine ixr (i + v.length) ?_ ?_ ?_ s32 (by decide)
          · rfl
          · rw [L_length]; omega
          refine lde (U xw) ?_ ?_ a32
          · rw [Nat.zero_add]; exact L_at' hxw
          refine mvd ?_
          refine bie (.i .u32 (((xw + c) % 4294967296 : Nat) : Int)) ?_ ?_
          · exact ⟨trivial, by rw [← Int.natCast_add, wrapU32]⟩
          refine ixr (i + v.length) ?_ ?_ ?_ s32 (by decide)
          · rfl
          · rw [L_length]; omega
          refine ste ?_ ?_ z32
          · rw [Nat.zero_add]; exact L_leaf hxw
          refine RL.gh (Gh.keep [4, 7, 8, 9, 10, 11, 12] rfl) ?_
          refine .nil ?_
          exact ⟨_, z1, by rw [z2]; exact w2, by rw [z3]; exact w3, r2, by rw [← L_set0]; rfl⟩
      rintro _ G3 ⟨u', p1, p2, p3, p4, rfl⟩
      have hq0 := h8 i (by omega)
      have hQlt : val (u.drop i) / val v < 4294967296 := by omega
      have hdm := Nat.div_add_mod (val (u.drop i)) (val v)
      have hml := Nat.mod_lt (val (u.drop i)) hVpos
      have hqs := set_val hq0 (y := val (u.drop i) / val v)
      have hnew : val u' + val v * val (q.set i (val (u.drop i) / val v)) = val a * 2 ^ n := by
        have e1 := val_split u i (by omega)
        have e2 := val_split u' i (by omega)
        rw [p3, p4] at e2
        rw [e1] at h6
        rw [e2]
        exact total_step h6 hdm.symm hqs
      generalize val (u.drop i) / val v = Q at *
      refine .region ?_
      refine mvo ?_
      refine mvd ?_
      refine mvd ?_
      refine cve (Q : Int) (toU32 hQlt) ?_ u64 u32
      refine ixr i ?_ ?_ ?_ s32 (by decide)
      · rfl
      · rw [L_length]; omega
      refine ste ?_ ?_ z32
      · rw [Nat.zero_add]; exact L_leaf hq0
      refine .nil ?_
      show AW _ _ _ _ _ _
      refine .region ?_
      refine mvd ?_
      refine su ((i : Int) - 1) ?_ ?_
      · omega
      refine asd ?_
      refine rn ?_
      refine .gh (Gh.keep [4, 7, 8, 9, 10, 11] rfl) ?_
      have := ih (i, u', q.set i Q, G3) ⟨by dsimp only; omega, p1, h3.set _ hQlt, by dsimp only; rw [p2]; exact h4, by dsimp only; rw [List.length_set]; exact h5, hnew, by dsimp only; rw [p4]; exact hml, fun j hj => by
        dsimp only at hj ⊢
        rw [List.getElem?_set_ne (by omega)]
        exact h8 j (by omega)⟩ (by dsimp only; omega)
      dsimp only at this
      rw [← L_set0] at this
      exact this
  rintro _ H4 ⟨u, q, h2, h3, h4, h5, h6, h7, rfl⟩
  obtain ⟨d1, d2⟩ := hdend _ _ h6 h7
  have htk : val (u.take v.length) = val u := by
    have e1 := val_split u v.length (by omega)
    have e2 := val_zero_drop (u := u) (k := v.length) (by omega) (by rw [lv]; omega)
    rw [e2, Nat.mul_zero, Nat.add_zero] at e1
    exact e1.symm
  have fbk := back_fn (a := u.take v.length) (n := n) (h2.take _) (by rw [List.length_take]; omega) hn32
  rw [htk, d2] at fbk
  have e9 : ((L u).drop 0).take (v.length - 0) = L (u.take v.length) := by rw [List.drop_zero, Nat.sub_zero, L_take]
  rw [← e9] at fbk
  have fct := cut_val (a := q) h3 (by omega)
  rw [← d1] at fct
  refine .gh (Gh.frz (p := .t 4) rfl (fun _ _ h => by cases h)) ?_
  refine .gh (Gh.frz (p := .t 8) rfl (fun _ _ h => by cases h)) ?_
  refine .gh (Gh.keep [4, 7, 8, 10] rfl) ?_
  refine .seq ?_
  refine .drawn 7 mixed (by kernel_rfl) ?_
  refine dv vmvd ?_
  refine dv (v := .d (.sl (L (digs (val a / val b))))) (vcl (xs := [.sl (L q)]) (r := .d (.sl (L (digs (val a / val b))))) fct Try.call46) ?_
  refine dv vmvd ?_
  refine dv vmvd ?_
  refine dv (vsl 0 v.length ?_ (L_sz1 _) s32) ?_
  · rw [L_length, L_length]; omega
  refine dv vmvd ?_
  refine dv (v := .d (.sl (L (digs (val a % val b))))) (vcl (xs := [.sl (((L u).drop 0).take (v.length - 0)), .i .i64 (n : Int)]) (r := .d (.sl (L (digs (val a % val b))))) fbk Try.call53) ?_
  refine dz ?_
  refine asd ?_
  refine asd ?_
  refine asd ?_
  refine rn ?_
  refine .ret ?_
  exact ⟨by decide, by rw [remN, if_neg h0, decide_eq_true h0]; rfl, rfl, rfl, rfl⟩
end Go.FL
/-
  nat.Gcd: Euclid's way, number after number.
-/
namespace Go.FL
open Go Go.Proofs

/-- The greatest divisor of a list's numbers. -/
def gcdF (ls : List (List Nat)) : Nat := ls.foldl (fun g a => Nat.gcd g (val a)) 0
theorem gcdF_snoc (ls : List (List Nat)) (y : List Nat) : gcdF (ls ++ [y]) = Nat.gcd (gcdF ls) (val y) := by
  rw [gcdF, gcdF, List.foldl_append]; rfl
theorem gcd_lt {g x P : Nat} (hg : g < P) (hx : x < P) : Nat.gcd g x < P := by
  by_cases h : x = 0
  · subst h; rwa [Nat.gcd_zero_right]
  · exact Nat.lt_of_le_of_lt (Nat.gcd_le_right g (Nat.pos_of_ne_zero h)) hx
theorem gcd_step {g x : Nat} : Nat.gcd x (g % x) = Nat.gcd g x := by
  rw [Nat.gcd_comm g x, Nat.gcd_rec x g, Nat.gcd_comm]
theorem Gcd_fn {M : Nat} {ls : List (List Nat)} (h : ∀ a ∈ ls, Ok a) (hM : ∀ a ∈ ls, a.length ≤ M) (hl : ls.length ≤ 1000) (hM2 : M ≤ 500000) : Fn Try.prog 19 [.sl (LL ls)] (.d (.sl (L (digs (gcdF ls))))) := by
  have hv : ∀ a ∈ ls, val a < 4294967296 ^ M := fun a ha => Nat.lt_of_lt_of_le (val_lt (h a ha)) (Nat.pow_le_pow_right (by decide) (hM a ha))
  have hP : 0 < 4294967296 ^ M := Nat.pow_pos (by decide)
  refine Fn.of (rs := [.tmp 2]) (nt := 31) Try.func19 rfl rfl rfl (by simp) rfl ?_
  refine .seq ?_
  refine .region ?_
  refine asn ?_
  refine rn ?_
  refine .seq ?_
  refine .region ?_
  refine asn ?_
  refine rn ?_
  refine .mid (fun e H' => e = [(3, .d (.sl (L (digs (gcdF ls)))))]) ?_ ?_
  · refine .seq ?_
    refine .region ?_
    refine mvd ?_
    refine ln ?_ (LL_sz _) l2
    refine mvd ?_
    refine rn ?_
    refine .block ?_
    refine .gh (Gh.nlD (t := 3) rfl) ?_
    refine .loop (.gh (Gh.keep [3, 9, 10, 11] rfl) ?_)
    refine AL.cast (env' := [(3, .d (.sl (L (digs (gcdF (ls.take 0)))))), (9, .d (.sl (LL ls))), (10, .d (.i .i64 ((LL ls).length : Nat))), (11, .d (.i .i64 ((0 : Nat) : Int)))]) (by rw [List.take_zero]; show _ = [(3, AV.d (.sl (L (digs 0)))), (9, AV.d (.sl (LL ls))), _, _]; rw [digs_zero]; rfl) ?_
    refine AL.ind (σ := Nat) (m := fun i => ls.length - i) (e := fun i => [(3, .d (.sl (L (digs (gcdF (ls.take i)))))), (9, .d (.sl (LL ls))), (10, .d (.i .i64 ((LL ls).length : Nat))), (11, .d (.i .i64 (i : Int)))]) (h := fun _ => [])
      (I := fun i => i ≤ ls.length ∧ gcdF (ls.take i) < 4294967296 ^ M) ?_ 0 ⟨Nat.zero_le _, by rw [List.take_zero]; exact hP⟩
    rintro i ⟨h1, h2⟩ ih
    refine .seq ?_
    refine .region ?_
    refine bi ?_
    refine rn ?_
    refine .seq ?_
    by_cases hi : i < ls.length
    · rw [decide_eq_true (show (i:Int) < ((LL ls).length : Nat) by rw [LL_length]; omega)]
      have hy : ls[i]? = some ls[i] := List.getElem?_eq_getElem hi
      have htk : ls.take (i + 1) = ls.take i ++ [ls[i]] := List.take_succ_eq_append_getElem hi
      generalize ls[i] = y at hy htk
      have hyo := h y (List.mem_of_getElem? hy)
      have hyl := hM y (List.mem_of_getElem? hy)
      have hyv := hv y (List.mem_of_getElem? hy)
      have hst : gcdF (ls.take (i + 1)) = Nat.gcd (gcdF (ls.take i)) (val y) := by rw [htk, gcdF_snoc]
      generalize gcdF (ls.take i) = g at *
      refine cndt ?_
      refine .skip ?_
      show AW _ _ _ _ _ _
      refine .seq ?_
      refine .block ?_
      refine .seq ?_
      refine .region ?_
      refine ix i ?_ rfl (LL_at hy) rfl s2
      refine ldp ?_ a2
      refine asd ?_
      refine rn ?_
      refine .seq ?_
      refine .region ?_
      refine mvd ?_
      refine cl (xs := [.sl (L y)]) ?_ (Trim_fn hyo (by omega)) Try.call26
      refine aso ?_
      refine RL.gh (Gh.frz (p := .t 5) rfl (fun _ _ h => by cases h)) ?_
      refine rn ?_
      refine .block ?_
      refine .loop (.gh (Gh.keep [3, 5, 9, 10, 11] rfl) ?_)
      refine AL.ind (σ := Nat × Nat) (m := fun s => s.2) (e := fun s => [(3, .d (.sl (L (digs s.1)))), (5, .d (.sl (L (digs s.2)))), (9, .d (.sl (LL ls))), (10, .d (.i .i64 ((LL ls).length : Nat))), (11, .d (.i .i64 (i : Int)))]) (h := fun _ => [])
        (I := fun s => s.1 < 4294967296 ^ M ∧ s.2 < 4294967296 ^ M ∧ Nat.gcd s.1 s.2 = Nat.gcd g (val y)) ?_ (g, val y) ⟨h2, hyv, rfl⟩
      rintro ⟨p, x⟩ ⟨g1, g2, g3⟩ ih2
      dsimp only at g1 g2 g3 ih2 ⊢
      refine .seq ?_
      refine .seq ?_
      refine .region ?_
      refine mvd ?_
      refine ln ?_ (L_sz _) l32
      refine bi ?_
      refine rn ?_
      by_cases hx : x = 0
      · subst hx
        rw [decide_eq_false (show ¬ (0 : Int) < ((L (digs 0)).length : Nat) by rw [digs_zero]; decide)]
        rw [Nat.gcd_zero_right, ← hst] at g3
        refine cndf ?_
        refine .exit ?_
        show AW _ _ _ _ _ _
        refine .region ?_
        refine ad ((i + 1 : Nat) : Int) ?_ ?_
        · omega
        refine mvd ?_
        refine rn ?_
        refine .gh (Gh.keep [3, 9, 10, 11] rfl) ?_
        rw [g3]
        exact ih (i + 1) ⟨by omega, by rw [← g3]; exact g1⟩ (by omega)
      · have hd := digs_ne (m := x) (by omega)
        rw [decide_eq_true (show (0 : Int) < ((L (digs x)).length : Nat) by rw [L_length]; omega)]
        have fd := DivMod_fn (a := digs p) (b := digs x) (digs_ok _) (digs_ok _) (Nat.le_trans (digs_len g1) hM2) (Nat.le_trans (digs_len g2) hM2)
        rw [val_digs, val_digs, remN, if_neg hx] at fd
        refine cndt ?_
        refine .skip ?_
        show AW _ _ _ _ _ _
        refine .block ?_
        refine .seq ?_
        refine .region ?_
        refine mvd ?_
        refine mvd ?_
        refine cl (xs := [.sl (L (digs p)), .sl (L (digs x))]) ?_ fd Try.call14
        refine mvt ?_
        refine ex ?_
        refine ex ?_
        refine ex ?_
        refine asd ?_
        refine asd ?_
        refine asd ?_
        refine rn ?_
        refine .region ?_
        refine mvd ?_
        refine mvd ?_
        refine asd ?_
        refine asd ?_
        refine .nil ?_
        refine AL.gh (Gh.keep [3, 5, 9, 10, 11] rfl) ?_
        have hlt := Nat.mod_lt p (Nat.pos_of_ne_zero hx)
        exact ih2 (x, p % x) ⟨g2, by show p % x < _; omega, by show Nat.gcd x (p % x) = _; rw [gcd_step, g3]⟩ hlt
    · rw [decide_eq_false (show ¬ (i:Int) < ((LL ls).length : Nat) by rw [LL_length]; omega)]
      refine cndf ?_
      refine .gh (Gh.keep [3] rfl) ?_
      refine .exit ?_
      have e1 : ls.take i = ls := List.take_of_length_le (by omega)
      show _ = _
      rw [e1]; rfl
  rintro _ _ rfl
  refine .seq ?_
  refine .region ?_
  refine mvd ?_
  refine asd ?_
  refine rn ?_
  refine .ret ?_
  exact ⟨rfl, rfl⟩
end Go.FL
/-
  glyphref01: half, gcd (by halves and differences), Gcd.
-/
namespace Go.FL
open Go Go.Proofs

theorem u64_and1 (m : Nat) (h : m < 18446744073709551616) : bits .and .u64 (m : Int) 1 = ((m % 2 : Nat) : Int) := by
  have := bits_mask .u64 64 (by decide) wraps_u64 1 (by decide) (m : Int) (by omega) (by omega)
  rw [show (2 : Int) ^ 1 - 1 = 1 by decide] at this
  rw [this]; simp
theorem half_join {x y : Nat} (hx : x < 4294967296) : bits .or .u32 ((x / 2 : Nat) : Int) ((y % 2 * 2147483648 : Nat) : Int) = (((x + y * 4294967296) / 2 ^ 1 % 4294967296 : Nat) : Int) := by
  rw [bits_join_low .u32 32 (by decide) wraps_u32 31 _ _ (by omega) (by omega) (by omega) (by omega) (by omega) (by omega)]
  omega
theorem headD_drop (a : List Nat) (i : Nat) : (a.drop i).headD 0 = a.getD i 0 := by
  rw [List.headD_eq_head?_getD, List.head?_drop, List.getD_eq_getElem?_getD]
theorem half_fn {a : List Nat} (ha : Ok a) (hl : a.length ≤ 1000000) : Fn Try.prog 68 [.sl (L a)] (.own 49 (L (digs (val a / 2)))) := by
  obtain ⟨s1, s2⟩ := shR_val (n := 1) (by decide) a ha
  have s3 := shR_length 1 a
  refine Fn.of (rs := [.tmp 2]) (nt := 29) Try.func68 rfl rfl rfl (by simp) rfl ?_
  refine .seq ?_
  refine .region ?_
  refine asn ?_
  refine rn ?_
  refine .seq ?_
  refine .region ?_
  refine asn ?_
  refine rn ?_
  refine .mid (fun e H' => e = [(3, .own 49 (L (shR 1 a)))] ∧ H' = []) ?_ ?_
  · refine .seq ?_
    refine .region ?_
    refine asd ?_
    refine rn ?_
    refine .block ?_
    refine .gh (Gh.nlOwn (t := 3) 49 z32p rfl) ?_
    refine .loop (.gh (Gh.keep [0, 3, 4] rfl) ?_)
    refine AL.ind (σ := Nat) (m := fun i => a.length - i) (e := fun i => [(0, .d (.sl (L a))), (3, .own 49 (L ((shR 1 a).take i))), (4, .d (.i .i64 (i : Int)))]) (h := fun _ => [])
      (I := fun i => i ≤ a.length) ?_ 0 (Nat.zero_le _)
    intro i h1 ih
    refine .seq ?_
    refine .seq ?_
    refine .region ?_
    refine mvd ?_
    refine mvd ?_
    refine ln ?_ (L_sz _) l32
    refine bi ?_
    refine rn ?_
    by_cases hi : i < a.length
    · rw [decide_eq_true (show (i : Int) < ((L a).length : Nat) by rw [L_length]; omega)]
      have hx : a[i]? = some a[i] := List.getElem?_eq_getElem hi
      generalize a[i] = x at hx
      have hxl := ha.at hx
      have hyl := getD_lt ha (i + 1)
      have hsh := shR_at 1 a i x hx
      rw [headD_drop] at hsh
      have flm := limb_fn (a := a) ha (i := i + 1) (by omega)
      have htk : (shR 1 a).take (i + 1) = (shR 1 a).take i ++ [(x + a.getD (i + 1) 0 * 4294967296) / 2 ^ 1 % 4294967296] := by
        rw [List.take_add_one, hsh]; rfl
      generalize a.getD (i + 1) 0 = y at *
      have hout : ((shR 1 a).take i).length = i := by rw [List.length_take]; omega
      generalize (shR 1 a).take i = out at *
      have hj := half_join (x := x) (y := y) hxl
      generalize (x + y * 4294967296) / 2 ^ 1 % 4294967296 = z at *
      have hsz : ∀ d ∈ L [z], d.flat = true ∧ d.cells.length = 1 := by
        intro d hd
        simp only [L, List.map_cons, List.map_nil, List.mem_cons, List.not_mem_nil, or_false] at hd
        subst hd; exact ⟨rfl, rfl⟩
      refine cndt ?_
      refine .skip ?_
      show AW _ _ _ _ _ _
      refine .seq ?_
      refine .block ?_
      refine .drawn 15 mixed (by kernel_rfl) ?_
      refine dv vmvo ?_
      refine dv vmvd ?_
      refine dv vmvd ?_
      refine dv (vix i rfl (L_at hx) rfl s32) ?_
      refine dv (vldp a32) ?_
      refine dv (vbie (.i .u32 ((x / 2 : Nat) : Int)) ?_) ?_
      · simp [IntKind.bits]
      refine dv vmvd ?_
      refine dv vmvd ?_
      refine dv (vad ((i + 1 : Nat) : Int) ?_) ?_
      · omega
      refine dv (v := .d (.i .u64 (y : Int))) (vcl (xs := [.sl (L a), .i .i64 ((i + 1 : Nat) : Int)]) flm Try.call65) ?_
      refine dv (vbie (.i .u64 ((y % 2 : Nat) : Int)) ?_) ?_
      · exact ⟨trivial, by rw [u64_and1 y (by omega)]⟩
      refine dv (vcve ((y % 2 : Nat) : Int) (toU32 (by omega)) u64 u32) ?_
      refine dv (vbie (.i .u32 ((y % 2 * 2147483648 : Nat) : Int)) ?_) ?_
      · refine ⟨by decide, ?_⟩
        have : IntKind.u32.wrap ((y % 2 * 2147483648 : Nat) : Int) = ((y % 2 * 2147483648 : Nat) : Int) := toU32 (by omega)
        rw [← this]; simp [IntKind.bits]
      refine dv (vbie (.i .u32 (z : Int)) ?_) ?_
      · exact ⟨trivial, by rw [hj]⟩
      refine dv (v := .d (.sl (L [z]))) (vbsl hsz e32).deep ?_
      refine dz ?_
      refine apr ?_ ?_ (L_sz1 [z]) e32
      · simp [L_length]; omega
      refine aso ?_
      refine .nil ?_
      show AW _ _ _ _ _ _
      refine .region ?_
      refine mvd ?_
      refine ad ((i + 1 : Nat) : Int) ?_ ?_
      · omega
      refine asd ?_
      refine rn ?_
      refine .gh (Gh.keep [0, 3, 4] rfl) ?_
      have := ih (i + 1) (by omega) (by omega)
      rw [htk, ← L_snoc] at this
      exact this
    · rw [decide_eq_false (show ¬ (i : Int) < ((L a).length : Nat) by rw [L_length]; omega)]
      refine cndf ?_
      refine .gh (Gh.keep [3] rfl) ?_
      refine .exit ?_
      have e1 : (shR 1 a).take i = shR 1 a := List.take_of_length_le (by omega)
      exact ⟨by rw [e1]; rfl, rfl⟩
  rintro _ _ ⟨rfl, rfl⟩
  refine .gh (Gh.frz (p := .t 3) rfl (fun _ _ h => by cases h)) ?_
  refine .seq ?_
  refine .region ?_
  refine mvd ?_
  refine cl (xs := [.sl (L (shR 1 a))]) ?_ (refTrim_fn s2 (by omega)) Try.call27
  refine aso ?_
  refine rn ?_
  refine .ret ?_
  exact ⟨by rw [s1]; rfl, rfl⟩

theorem gcd_even {k y : Nat} (h : y % 2 = 1) : Nat.gcd (2 * k) y = Nat.gcd k y := by
  have hc : Nat.Coprime 2 y := by rw [Nat.coprime_iff_gcd_eq_one, Nat.gcd_rec, h]; decide
  exact hc.gcd_mul_left_cancel k
theorem gcd_halfL {x y : Nat} (hx : x % 2 = 0) (h : y % 2 = 1) : Nat.gcd (x / 2) y = Nat.gcd x y := by
  have := gcd_even (k := x / 2) h
  rw [show 2 * (x / 2) = x by omega] at this
  exact this.symm
theorem gcd_halfR {x y : Nat} (hx : x % 2 = 1) (h : y % 2 = 0) : Nat.gcd x (y / 2) = Nat.gcd x y := by
  rw [Nat.gcd_comm x, Nat.gcd_comm x]; exact gcd_halfL h hx
theorem gcd_subL {x y : Nat} (h : y ≤ x) : Nat.gcd (x - y) y = Nat.gcd x y := by
  have := Nat.gcd_sub_mul_right_left (m := y) (n := x) (k := 1) (by omega)
  rwa [Nat.one_mul] at this
theorem gcd_subR {x y : Nat} (h : x ≤ y) : Nat.gcd x (y - x) = Nat.gcd x y := by
  rw [Nat.gcd_comm x, Nat.gcd_comm x]; exact gcd_subL h
theorem gcd_end {x y : Nat} (h : x = 0 ∨ y = 0) : x + y = Nat.gcd x y := by
  rcases h with rfl | rfl <;> simp
theorem two_lim {x t M V : Nat} (h : x * 2 ^ t = V) (hx : 0 < x) (hV : V < 4294967296 ^ M) : t < 32 * M := by
  have h1 : 2 ^ t ≤ V := by rw [← h]; exact Nat.le_mul_of_pos_left _ hx
  have h2 : 2 ^ t < 2 ^ (32 * M) := by rw [Nat.pow_mul]; exact Nat.lt_of_le_of_lt h1 hV
  exact (Nat.pow_lt_pow_iff_right (by decide)).1 h2
theorem two_up {x t V : Nat} (h : x * 2 ^ t = V) (he : x % 2 = 0) : x / 2 * 2 ^ (t + 1) = V := by
  have : x = 2 * (x / 2) := by omega
  generalize x / 2 = k at *
  subst this
  rw [← h, Nat.pow_succ]; grind
theorem digs_head {x : Nat} (h : 0 < x) : (digs x)[0]? = some (x % 4294967296) := by
  rw [digs_pos (by omega)]; rfl
theorem par32 (x : Nat) : decide (((x % 4294967296 % 2 : Nat) : Int) = 0) = decide (x % 2 = 0) := by
  rw [show x % 4294967296 % 2 = x % 2 by omega]
  by_cases h : x % 2 = 0
  · rw [h]; rfl
  · rw [decide_eq_false h, decide_eq_false (by omega)]
theorem pos_ln {x : Nat} (h : 0 < x) : (0 : Int) < ((L (digs x)).length : Nat) := by
  have := digs_ne h
  rw [L_length]; omega
theorem cmp_ge {x y : Nat} : (0 : Int) ≤ cmpN x y ↔ y ≤ x := by
  unfold cmpN
  by_cases h1 : x < y
  · rw [if_pos h1]; omega
  · rw [if_neg h1]; split <;> omega
theorem minN_of {x y : Nat} (h : y ≤ x) : minN x y = x - y := by
  unfold minN; split <;> omega
theorem ref_gcd_fn {M : Nat} {a b : List Nat} (ha : Ok a) (hb : Ok b) (hla : a.length ≤ M) (hlb : b.length ≤ M) (hM : M ≤ 100000) : Fn Try.prog 56 [.sl (L a), .sl (L b)] (.d (.sl (L (digs (Nat.gcd (val a) (val b)))))) := by
  have hva : val a < 4294967296 ^ M := Nat.lt_of_lt_of_le (val_lt ha) (Nat.pow_le_pow_right (by decide) hla)
  have hvb : val b < 4294967296 ^ M := Nat.lt_of_lt_of_le (val_lt hb) (Nat.pow_le_pow_right (by decide) hlb)
  have hgl : Nat.gcd (val a) (val b) < 4294967296 ^ M := gcd_lt hva hvb
  have dl : ∀ {x : Nat}, x < 4294967296 ^ M → (digs x).length ≤ 100000 := fun h => Nat.le_trans (digs_len h) hM
  refine Fn.of (rs := [.tmp 4]) (nt := 90) Try.func56 rfl rfl rfl (by simp) rfl ?_
  refine .seq ?_
  refine .region ?_
  refine asn ?_
  refine rn ?_
  refine .seq ?_
  refine .region ?_
  refine mvd ?_
  refine cl (xs := [.sl (L a)]) ?_ (refTrim_fn ha (by omega)) Try.call27
  refine mvd ?_
  refine cl (xs := [.sl (L b)]) ?_ (refTrim_fn hb (by omega)) Try.call27
  refine aso ?_
  refine aso ?_
  refine rn ?_
  refine .gh (Gh.frz (p := .t 0) rfl (fun _ _ h => by cases h)) ?_
  refine .gh (Gh.frz (p := .t 1) rfl (fun _ _ h => by cases h)) ?_
  refine .seq ?_
  refine .region ?_
  refine asd ?_
  refine rn ?_
  refine .gh (Gh.keep [0, 1, 5] rfl) ?_
  refine .mid (fun e H' => H' = [] ∧ ∃ x y t, x < 4294967296 ^ M ∧ y < 4294967296 ^ M ∧ t ≤ 32 * M ∧ x * 2 ^ t = val a ∧ y * 2 ^ t = val b ∧ (x = 0 ∨ y = 0 ∨ x % 2 = 1 ∨ y % 2 = 1) ∧ e = [(0, .d (.sl (L (digs x)))), (1, .d (.sl (L (digs y)))), (5, .d (.i .i64 (t : Int)))]) ?_ ?_
  · refine .block ?_
    refine .loop ?_
    refine AL.ind (σ := Nat × Nat × Nat) (m := fun s => s.1) (e := fun s => [(0, .d (.sl (L (digs s.1)))), (1, .d (.sl (L (digs s.2.1)))), (5, .d (.i .i64 (s.2.2 : Int)))]) (h := fun _ => [])
      (I := fun s => s.1 < 4294967296 ^ M ∧ s.2.1 < 4294967296 ^ M ∧ s.2.2 ≤ 32 * M ∧ s.1 * 2 ^ s.2.2 = val a ∧ s.2.1 * 2 ^ s.2.2 = val b) ?_ (val a, val b, 0) ⟨hva, hvb, Nat.zero_le _, by simp, by simp⟩
    rintro ⟨x, y, t⟩ ⟨h1, h2, h3, h4, h5⟩ ih
    dsimp only at h1 h2 h3 h4 h5 ih ⊢
    refine .mid (fun e H' => H' = [] ∧ 0 < x ∧ 0 < y ∧ x % 2 = 0 ∧ y % 2 = 0 ∧ e = [(0, .d (.sl (L (digs x)))), (1, .d (.sl (L (digs y)))), (5, .d (.i .i64 (t : Int)))]) ?_ ?_
    · refine .seq ?_
      refine .region ?_
      refine mvd ?_
      refine ln ?_ (L_sz _) l32
      refine bi ?_
      refine mvd ?_
      by_cases hx : x = 0
      · rw [hx, decide_eq_false (show ¬ (0 : Int) < ((L (digs 0)).length : Nat) by rw [digs_zero]; decide)]
        refine gf ?_
        refine gf ?_
        refine gf ?_
        refine pkd ?_
        refine mvd ?_
        refine gf ?_
        refine gf ?_
        refine gf ?_
        refine gf ?_
        refine gf ?_
        refine pkd ?_
        refine mvd ?_
        refine gf ?_
        refine gf ?_
        refine gf ?_
        refine gf ?_
        refine gf ?_
        refine pkd ?_
        refine rn ?_
        refine cndf ?_
        refine .gh (Gh.keep [0, 1, 5] rfl) ?_
        refine .exit ?_
        subst hx
        exact ⟨rfl, 0, y, t, h1, h2, h3, h4, h5, .inl rfl, rfl⟩
      rw [decide_eq_true (pos_ln (show 0 < x by omega))]
      refine mvd ?_
      refine ln ?_ (L_sz _) l32
      refine bi ?_
      by_cases hy : y = 0
      · rw [hy, decide_eq_false (show ¬ (0 : Int) < ((L (digs 0)).length : Nat) by rw [digs_zero]; decide)]
        refine pkd ?_
        refine mvd ?_
        refine gf ?_
        refine gf ?_
        refine gf ?_
        refine gf ?_
        refine gf ?_
        refine pkd ?_
        refine mvd ?_
        refine gf ?_
        refine gf ?_
        refine gf ?_
        refine gf ?_
        refine gf ?_
        refine pkd ?_
        refine rn ?_
        refine cndf ?_
        refine .gh (Gh.keep [0, 1, 5] rfl) ?_
        refine .exit ?_
        subst hy
        exact ⟨rfl, x, 0, t, h1, h2, h3, h4, h5, .inr (.inl rfl), rfl⟩
      rw [decide_eq_true (pos_ln (show 0 < y by omega))]
      refine pkd ?_
      refine mvd ?_
      refine mvd ?_
      refine ix 0 ?_ rfl (L_at (digs_head (show 0 < x by omega))) rfl s32
      refine ldp ?_ a32
      refine bie (.i .u32 ((x % 4294967296 % 2 : Nat) : Int)) ?_ ?_
      · exact ⟨trivial, by rw [u32_and1 _ (Nat.mod_lt _ (by decide))]⟩
      refine bi ?_
      rw [par32]
      by_cases hx2 : x % 2 = 0
      · rw [decide_eq_true hx2]
        refine pkd ?_
        refine mvd ?_
        refine mvd ?_
        refine ix 0 ?_ rfl (L_at (digs_head (show 0 < y by omega))) rfl s32
        refine ldp ?_ a32
        refine bie (.i .u32 ((y % 4294967296 % 2 : Nat) : Int)) ?_ ?_
        · exact ⟨trivial, by rw [u32_and1 _ (Nat.mod_lt _ (by decide))]⟩
        refine bi ?_
        rw [par32]
        by_cases hy2 : y % 2 = 0
        · rw [decide_eq_true hy2]
          refine pkd ?_
          refine rn ?_
          refine cndt ?_
          refine .gh (Gh.keep [0, 1, 5] rfl) ?_
          refine .skip ?_
          exact ⟨rfl, by omega, by omega, hx2, hy2, rfl⟩
        · rw [decide_eq_false hy2]
          refine pkd ?_
          refine rn ?_
          refine cndf ?_
          refine .gh (Gh.keep [0, 1, 5] rfl) ?_
          refine .exit ?_
          exact ⟨rfl, x, y, t, h1, h2, h3, h4, h5, .inr (.inr (.inr (by omega))), rfl⟩
      · rw [decide_eq_false hx2]
        refine pkd ?_
        refine mvd ?_
        refine gf ?_
        refine gf ?_
        refine gf ?_
        refine gf ?_
        refine gf ?_
        refine pkd ?_
        refine rn ?_
        refine cndf ?_
        refine .gh (Gh.keep [0, 1, 5] rfl) ?_
        refine .exit ?_
        exact ⟨rfl, x, y, t, h1, h2, h3, h4, h5, .inr (.inr (.inl (by omega))), rfl⟩
    rintro _ _ ⟨rfl, hx, hy, hx2, hy2, rfl⟩
    have hlim := two_lim h4 hx hva
    have f1 := half_fn (a := digs x) (digs_ok x) (Nat.le_trans (dl h1) (by decide))
    have f2 := half_fn (a := digs y) (digs_ok y) (Nat.le_trans (dl h2) (by decide))
    rw [val_digs] at f1 f2
    refine .block ?_
    refine .seq ?_
    refine .region ?_
    refine mvd ?_
    refine cl (xs := [.sl (L (digs x))]) ?_ f1 Try.call68
    refine mvd ?_
    refine cl (xs := [.sl (L (digs y))]) ?_ f2 Try.call68
    refine aso ?_
    refine aso ?_
    refine rn ?_
    refine .gh (Gh.frz (p := .t 0) rfl (fun _ _ h => by cases h)) ?_
    refine .gh (Gh.frz (p := .t 1) rfl (fun _ _ h => by cases h)) ?_
    refine .gh (Gh.keep [0, 1, 5] rfl) ?_
    refine .region ?_
    refine mvd ?_
    refine ad ((t + 1 : Nat) : Int) ?_ ?_
    · omega
    refine asd ?_
    refine .nil ?_
    refine AL.gh (Gh.keep [0, 1, 5] rfl) ?_
    exact ih (x / 2, y / 2, t + 1) ⟨by dsimp only; omega, by dsimp only; omega, by dsimp only; omega, two_up h4 hx2, two_up h5 hy2⟩ (by dsimp only; omega)
  rintro _ _ ⟨rfl, x0, y0, t, h1, h2, h3, h4, h5, h6, rfl⟩
  have hG : Nat.gcd x0 y0 * 2 ^ t = Nat.gcd (val a) (val b) := by rw [← h4, ← h5, Nat.gcd_mul_right]
  rw [← hG] at hgl ⊢
  have htl : 32 * M ≤ 3200000 := by omega
  clear h4 h5 hG
  refine .mid (fun e H' => H' = [] ∧ ∃ x y, x < 4294967296 ^ M ∧ y < 4294967296 ^ M ∧ x + y = Nat.gcd x0 y0 ∧ e = [(0, .d (.sl (L (digs x)))), (1, .d (.sl (L (digs y)))), (5, .d (.i .i64 (t : Int)))]) ?_ ?_
  · refine .block ?_
    refine .loop ?_
    refine AL.ind (σ := Nat × Nat) (m := fun s => s.1 + s.2) (e := fun s => [(0, .d (.sl (L (digs s.1)))), (1, .d (.sl (L (digs s.2)))), (5, .d (.i .i64 (t : Int)))]) (h := fun _ => [])
      (I := fun s => s.1 < 4294967296 ^ M ∧ s.2 < 4294967296 ^ M ∧ Nat.gcd s.1 s.2 = Nat.gcd x0 y0 ∧ (s.1 = 0 ∨ s.2 = 0 ∨ s.1 % 2 = 1 ∨ s.2 % 2 = 1)) ?_ (x0, y0) ⟨h1, h2, rfl, h6⟩
    rintro ⟨x, y⟩ ⟨g1, g2, g3, g4⟩ ih
    dsimp only at g1 g2 g3 g4 ih ⊢
    refine .mid (fun e H' => H' = [] ∧ 0 < x ∧ 0 < y ∧ e = [(0, .d (.sl (L (digs x)))), (1, .d (.sl (L (digs y)))), (5, .d (.i .i64 (t : Int)))]) ?_ ?_
    · refine .seq ?_
      refine .region ?_
      refine mvd ?_
      refine ln ?_ (L_sz _) l32
      refine bi ?_
      refine mvd ?_
      by_cases hx : x = 0
      · rw [hx, decide_eq_false (show ¬ (0 : Int) < ((L (digs 0)).length : Nat) by rw [digs_zero]; decide)]
        refine gf ?_
        refine gf ?_
        refine gf ?_
        refine pkd ?_
        refine rn ?_
        refine cndf ?_
        refine .gh (Gh.keep [0, 1, 5] rfl) ?_
        refine .exit ?_
        subst hx
        exact ⟨rfl, 0, y, g1, g2, by rw [gcd_end (.inl rfl), g3], rfl⟩
      rw [decide_eq_true (pos_ln (show 0 < x by omega))]
      refine mvd ?_
      refine ln ?_ (L_sz _) l32
      refine bi ?_
      by_cases hy : y = 0
      · rw [hy, decide_eq_false (show ¬ (0 : Int) < ((L (digs 0)).length : Nat) by rw [digs_zero]; decide)]
        refine pkd ?_
        refine rn ?_
        refine cndf ?_
        refine .gh (Gh.keep [0, 1, 5] rfl) ?_
        refine .exit ?_
        subst hy
        exact ⟨rfl, x, 0, g1, g2, by rw [gcd_end (.inr rfl), g3], rfl⟩
      rw [decide_eq_true (pos_ln (show 0 < y by omega))]
      refine pkd ?_
      refine rn ?_
      refine cndt ?_
      refine .gh (Gh.keep [0, 1, 5] rfl) ?_
      refine .skip ?_
      exact ⟨rfl, by omega, by omega, rfl⟩
    rintro _ _ ⟨rfl, hx, hy, rfl⟩
    refine .block ?_
    refine .block ?_
    refine .seq ?_
    refine .region ?_
    refine mvd ?_
    refine ix 0 ?_ rfl (L_at (digs_head hx)) rfl s32
    refine ldp ?_ a32
    refine bie (.i .u32 ((x % 4294967296 % 2 : Nat) : Int)) ?_ ?_
    · exact ⟨trivial, by rw [u32_and1 _ (Nat.mod_lt _ (by decide))]⟩
    refine bi ?_
    refine asd ?_
    refine rn ?_
    rw [par32]
    by_cases hx2 : x % 2 = 0
    · rw [decide_eq_true hx2]
      have f1 := half_fn (a := digs x) (digs_ok x) (Nat.le_trans (dl g1) (by decide))
      rw [val_digs] at f1
      refine cndt ?_
      refine .gh (Gh.keep [0, 1, 5] rfl) ?_
      refine .region ?_
      refine mvd ?_
      refine cl (xs := [.sl (L (digs x))]) ?_ f1 Try.call68
      refine aso ?_
      refine RL.gh (Gh.frz (p := .t 0) rfl (fun _ _ h => by cases h)) ?_
      refine .nil ?_
      refine AL.gh (Gh.keep [0, 1, 5] rfl) ?_
      exact ih (x / 2, y) ⟨by dsimp only; omega, g2, by dsimp only; rw [← g3]; exact gcd_halfL hx2 (by omega), .inr (.inr (.inr (by dsimp only; omega)))⟩ (by dsimp only; omega)
    rw [decide_eq_false hx2]
    refine cndf ?_
    refine .gh (Gh.keep [0, 1, 5] rfl) ?_
    refine .seq ?_
    refine .region ?_
    refine mvd ?_
    refine ix 0 ?_ rfl (L_at (digs_head hy)) rfl s32
    refine ldp ?_ a32
    refine bie (.i .u32 ((y % 4294967296 % 2 : Nat) : Int)) ?_ ?_
    · exact ⟨trivial, by rw [u32_and1 _ (Nat.mod_lt _ (by decide))]⟩
    refine bi ?_
    refine asd ?_
    refine rn ?_
    rw [par32]
    by_cases hy2 : y % 2 = 0
    · rw [decide_eq_true hy2]
      have f1 := half_fn (a := digs y) (digs_ok y) (Nat.le_trans (dl g2) (by decide))
      rw [val_digs] at f1
      refine cndt ?_
      refine .gh (Gh.keep [0, 1, 5] rfl) ?_
      refine .region ?_
      refine mvd ?_
      refine cl (xs := [.sl (L (digs y))]) ?_ f1 Try.call68
      refine aso ?_
      refine RL.gh (Gh.frz (p := .t 1) rfl (fun _ _ h => by cases h)) ?_
      refine .nil ?_
      refine AL.gh (Gh.keep [0, 1, 5] rfl) ?_
      exact ih (x, y / 2) ⟨g1, by dsimp only; omega, by dsimp only; rw [← g3]; exact gcd_halfR (by omega) hy2, .inr (.inr (.inl (by dsimp only; omega)))⟩ (by dsimp only; omega)
    rw [decide_eq_false hy2]
    have fc := refCompare_fn (a := digs x) (b := digs y) (digs_ok x) (digs_ok y) (Nat.le_trans (dl g1) (by decide)) (Nat.le_trans (dl g2) (by decide))
    rw [val_digs, val_digs] at fc
    refine cndf ?_
    refine .gh (Gh.keep [0, 1, 5] rfl) ?_
    refine .seq ?_
    refine .region ?_
    refine mvd ?_
    refine mvd ?_
    refine cl (xs := [.sl (L (digs x)), .sl (L (digs y))]) ?_ fc Try.call31
    refine bi ?_
    refine asd ?_
    refine rn ?_
    by_cases hle : y ≤ x
    · rw [decide_eq_true (cmp_ge.2 hle)]
      have fm := refMinus_fn (a := digs x) (b := digs y) (digs_ok x) (digs_ok y) (Nat.le_trans (dl g1) (by decide)) (Nat.le_trans (dl g2) (by decide))
      rw [val_digs, val_digs, minN_of hle] at fm
      refine cndt ?_
      refine .gh (Gh.keep [0, 1, 5] rfl) ?_
      refine .region ?_
      refine mvd ?_
      refine mvd ?_
      refine cl (xs := [.sl (L (digs x)), .sl (L (digs y))]) ?_ fm Try.call43
      refine mvt ?_
      refine ex ?_
      refine ex ?_
      refine asd ?_
      refine .nil ?_
      refine AL.gh (Gh.keep [0, 1, 5] rfl) ?_
      exact ih (x - y, y) ⟨by dsimp only; omega, g2, by dsimp only; rw [← g3]; exact gcd_subL hle, .inr (.inr (.inr (by dsimp only; omega)))⟩ (by dsimp only; omega)
    · rw [decide_eq_false (fun h => hle (cmp_ge.1 h))]
      have fm := refMinus_fn (a := digs y) (b := digs x) (digs_ok y) (digs_ok x) (Nat.le_trans (dl g2) (by decide)) (Nat.le_trans (dl g1) (by decide))
      rw [val_digs, val_digs, minN_of (show x ≤ y by omega)] at fm
      refine cndf ?_
      refine .gh (Gh.keep [0, 1, 5] rfl) ?_
      refine .region ?_
      refine mvd ?_
      refine mvd ?_
      refine cl (xs := [.sl (L (digs y)), .sl (L (digs x))]) ?_ fm Try.call43
      refine mvt ?_
      refine ex ?_
      refine ex ?_
      refine asd ?_
      refine .nil ?_
      refine AL.gh (Gh.keep [0, 1, 5] rfl) ?_
      exact ih (x, y - x) ⟨g1, by dsimp only; omega, by dsimp only; rw [← g3]; exact gcd_subR (by omega), .inr (.inr (.inl (by dsimp only; omega)))⟩ (by dsimp only; omega)
  rintro _ _ ⟨rfl, x, y, k1, k2, k3, rfl⟩
  have fa := Add_fn (a := digs x) (b := digs y) (digs_ok x) (digs_ok y) (Nat.le_trans (dl k1) (by decide)) (Nat.le_trans (dl k2) (by decide))
  rw [val_digs, val_digs, k3] at fa
  refine .seq ?_
  refine .region ?_
  refine mvd ?_
  refine mvd ?_
  refine cl (xs := [.sl (L (digs x)), .sl (L (digs y))]) ?_ fa Try.call61
  refine aso ?_
  refine rn ?_
  refine .gh (Gh.frz (p := .t 6) rfl (fun _ _ h => by cases h)) ?_
  refine .gh (Gh.keep [5, 6] rfl) ?_
  generalize Nat.gcd x0 y0 = G at *
  refine .mid (fun e H' => e = [(6, .d (.sl (L (digs (G * 2 ^ t)))))]) ?_ ?_
  · refine .block ?_
    refine .loop ?_
    refine AL.ind (σ := Nat × Nat) (m := fun s => s.1) (e := fun s => [(5, .d (.i .i64 (s.1 : Int))), (6, .d (.sl (L (digs s.2))))]) (h := fun _ => [])
      (I := fun s => s.1 ≤ 3200000 ∧ s.2 * 2 ^ s.1 = G * 2 ^ t) ?_ (t, G) ⟨by dsimp only; omega, rfl⟩
    rintro ⟨s, g⟩ ⟨g1, g2⟩ ih
    dsimp only at g1 g2 ih ⊢
    have hgv : g < 4294967296 ^ M := by
      have : g ≤ g * 2 ^ s := Nat.le_mul_of_pos_right _ (Nat.pow_pos (by decide))
      omega
    refine .seq ?_
    refine .seq ?_
    refine .region ?_
    refine mvd ?_
    refine bi ?_
    refine rn ?_
    cases s with
    | zero =>
      refine cndf ?_
      refine .gh (Gh.keep [6] rfl) ?_
      refine .exit ?_
      rw [← g2, Nat.pow_zero, Nat.mul_one]; rfl
    | succ s =>
      have ft := twice_fn (a := digs g) (c0 := 0) (digs_ok g) (Nat.le_trans (dl hgv) (by decide)) (by decide)
      rw [val_digs, Nat.add_zero] at ft
      rw [decide_eq_true (show (0 : Int) < ((s + 1 : Nat) : Int) by omega)]
      refine cndt ?_
      refine .skip ?_
      show AW _ _ _ _ _ _
      refine .seq ?_
      refine .block ?_
      refine .region ?_
      refine mvd ?_
      refine cl (xs := [.sl (L (digs g)), .i .u32 ((0 : Nat) : Int)]) ?_ ft Try.call54
      refine aso ?_
      refine RL.gh (Gh.frz (p := .t 6) rfl (fun _ _ h => by cases h)) ?_
      refine .nil ?_
      show AW _ _ _ _ _ _
      refine .region ?_
      refine mvd ?_
      refine su (s : Int) ?_ ?_
      · omega
      refine asd ?_
      refine rn ?_
      refine .gh (Gh.keep [5, 6] rfl) ?_
      exact ih (s, 2 * g) ⟨by dsimp only; omega, by dsimp only; rw [← g2, Nat.pow_succ]; grind⟩ (by dsimp only; omega)
  rintro _ _ rfl
  refine .seq ?_
  refine .region ?_
  refine mvd ?_
  refine asd ?_
  refine rn ?_
  refine .ret ?_
  exact ⟨rfl, rfl⟩
end Go.FL
/-
  glyphref01.Gcd.
-/
namespace Go.FL
open Go Go.Proofs

theorem refGcd_fn {M : Nat} {ls : List (List Nat)} (h : ∀ a ∈ ls, Ok a) (hM : ∀ a ∈ ls, a.length ≤ M) (hl : ls.length ≤ 1000) (hM2 : M ≤ 100000) : Fn Try.prog 20 [.sl (LL ls)] (.d (.sl (L (digs (gcdF ls))))) := by
  have hv : ∀ a ∈ ls, val a < 4294967296 ^ M := fun a ha => Nat.lt_of_lt_of_le (val_lt (h a ha)) (Nat.pow_le_pow_right (by decide) (hM a ha))
  have hP : 0 < 4294967296 ^ M := Nat.pow_pos (by decide)
  refine Fn.of (rs := [.tmp 2]) (nt := 18) Try.func20 rfl rfl rfl (by simp) rfl ?_
  refine .seq ?_
  refine .region ?_
  refine asn ?_
  refine rn ?_
  refine .seq ?_
  refine .region ?_
  refine asn ?_
  refine rn ?_
  refine .mid (fun e H' => e = [(3, .d (.sl (L (digs (gcdF ls)))))]) ?_ ?_
  · refine .seq ?_
    refine .region ?_
    refine asd ?_
    refine rn ?_
    refine .block ?_
    refine .gh (Gh.nlD (t := 3) rfl) ?_
    refine .loop (.gh (Gh.keep [0, 3, 4] rfl) ?_)
    refine AL.cast (env' := [(0, .d (.sl (LL ls))), (3, .d (.sl (L (digs (gcdF (ls.take 0)))))), (4, .d (.i .i64 ((0 : Nat) : Int)))]) (by rw [List.take_zero]; show _ = [(0, AV.d (.sl (LL ls))), (3, AV.d (.sl (L (digs 0)))), _]; rw [digs_zero]; rfl) ?_
    refine AL.ind (σ := Nat) (m := fun i => ls.length - i) (e := fun i => [(0, .d (.sl (LL ls))), (3, .d (.sl (L (digs (gcdF (ls.take i)))))), (4, .d (.i .i64 (i : Int)))]) (h := fun _ => [])
      (I := fun i => i ≤ ls.length ∧ gcdF (ls.take i) < 4294967296 ^ M) ?_ 0 ⟨Nat.zero_le _, by rw [List.take_zero]; exact hP⟩
    rintro i ⟨h1, h2⟩ ih
    refine .seq ?_
    refine .seq ?_
    refine .region ?_
    refine mvd ?_
    refine mvd ?_
    refine ln ?_ (LL_sz _) l2
    refine bi ?_
    refine rn ?_
    by_cases hi : i < ls.length
    · rw [decide_eq_true (show (i:Int) < ((LL ls).length : Nat) by rw [LL_length]; omega)]
      have hy : ls[i]? = some ls[i] := List.getElem?_eq_getElem hi
      have htk : ls.take (i + 1) = ls.take i ++ [ls[i]] := List.take_succ_eq_append_getElem hi
      generalize ls[i] = y at hy htk
      have hyo := h y (List.mem_of_getElem? hy)
      have hyl := hM y (List.mem_of_getElem? hy)
      have hyv := hv y (List.mem_of_getElem? hy)
      have hst : gcdF (ls.take (i + 1)) = Nat.gcd (gcdF (ls.take i)) (val y) := by rw [htk, gcdF_snoc]
      generalize gcdF (ls.take i) = g at *
      have fg := ref_gcd_fn (M := M) (a := digs g) (b := y) (digs_ok g) hyo (digs_len h2) hyl hM2
      rw [val_digs, ← hst] at fg
      refine cndt ?_
      refine .skip ?_
      show AW _ _ _ _ _ _
      refine .seq ?_
      refine .block ?_
      refine .region ?_
      refine mvd ?_
      refine mvd ?_
      refine mvd ?_
      refine ix i ?_ rfl (LL_at hy) rfl s2
      refine ldp ?_ a2
      refine cl (xs := [.sl (L (digs g)), .sl (L y)]) ?_ fg Try.call56
      refine asd ?_
      refine .nil ?_
      show AW _ _ _ _ _ _
      refine .region ?_
      refine mvd ?_
      refine ad ((i + 1 : Nat) : Int) ?_ ?_
      · omega
      refine asd ?_
      refine rn ?_
      refine .gh (Gh.keep [0, 3, 4] rfl) ?_
      exact ih (i + 1) ⟨by omega, by rw [hst]; exact gcd_lt h2 hyv⟩ (by omega)
    · rw [decide_eq_false (show ¬ (i:Int) < ((LL ls).length : Nat) by rw [LL_length]; omega)]
      refine cndf ?_
      refine .gh (Gh.keep [3] rfl) ?_
      refine .exit ?_
      have e1 : ls.take i = ls := List.take_of_length_le (by omega)
      show _ = _
      rw [e1]; rfl
  rintro _ _ rfl
  refine .seq ?_
  refine .region ?_
  refine mvd ?_
  refine asd ?_
  refine rn ?_
  refine .ret ?_
  exact ⟨rfl, rfl⟩
end Go.FL
/-
  The law NatDivides: quotients, what is left, and greatest divisors are exact.
-/
namespace Go.FL
open Go Go.Proofs

theorem NatDivides_fn {a b : List Nat} (ha : Ok a) (hb : Ok b) : Fn Try.prog 3 [.sl (L a), .sl (L b)] (.d (.b true)) := by
  have w1 := own_fn a
  have w2 := own_fn b
  have v1 := few_fn a
  have v2 := few_fn b
  have k1 := kept_fn (x := a.take 40) (b := a) rfl
  have k2 := kept_fn (x := b.take 40) (b := b) rfl
  have oa := ha.take 40
  have ob := hb.take 40
  have la : (a.take 40).length ≤ 40 := by rw [List.length_take]; omega
  have lb : (b.take 40).length ≤ 40 := by rw [List.length_take]; omega
  generalize a.take 40 = x at *
  generalize b.take 40 = y at *
  have va : val x < 4294967296 ^ 40 := Nat.lt_of_lt_of_le (val_lt oa) (Nat.pow_le_pow_right (by decide) la)
  have vb : val y < 4294967296 ^ 40 := Nat.lt_of_lt_of_le (val_lt ob) (Nat.pow_le_pow_right (by decide) lb)
  have d1 := DivMod_fn oa ob (by omega) (by omega)
  have d2 := refDivMod_fn oa ob (by omega) (by omega)
  have hq : val x / val y < 4294967296 ^ 40 := Nat.lt_of_le_of_lt (Nat.div_le_self _ _) va
  have hr : remN (val x) (val y) < 4294967296 ^ 40 := by
    unfold remN; split
    · exact Nat.pow_pos (by decide)
    · exact Nat.lt_of_le_of_lt (Nat.mod_le _ _) va
  have s1 := same_fn hq (by decide)
  have s2 := same_fn hr (by decide)
  generalize val x / val y = q at *
  generalize remN (val x) (val y) = r at *
  generalize decide (val y ≠ 0) = ok at *
  have g1 := Gcd_fn (M := 40) (ls := [x, y]) (by simp [oa, ob]) (by simp [la, lb]) (by simp) (by decide)
  have g2 := refGcd_fn (M := 40) (ls := [x, y]) (by simp [oa, ob]) (by simp [la, lb]) (by simp) (by decide)
  have hg : gcdF [x, y] < 4294967296 ^ 40 := by
    show Nat.gcd (Nat.gcd 0 (val x)) (val y) < _
    exact gcd_lt (gcd_lt (Nat.pow_pos (by decide)) va) vb
  have s3 := same_fn hg (by decide)
  generalize gcdF [x, y] = g at *
  have e1 := Gcd_fn (M := 1) (ls := []) (by simp) (by simp) (by simp) (by decide)
  rw [show gcdF [] = 0 from rfl, digs_zero] at e1
  clear va vb hq hr hg
  refine Fn.of (rs := [.tmp 4]) (nt := 77) Try.func3 rfl rfl rfl (by simp) rfl ?_
  refine .seq ?_
  refine .region ?_
  refine asd ?_
  refine rn ?_
  refine .seq ?_
  refine .region ?_
  refine mvd ?_
  refine cl (xs := [.sl (L a)]) ?_ w1 Try.call13
  refine mvd ?_
  refine cl (xs := [.sl (L b)]) ?_ w2 Try.call13
  refine asd ?_
  refine asd ?_
  refine rn ?_
  refine .gh (Gh.keep [0, 1, 5, 6] rfl) ?_
  refine .seq ?_
  refine .region ?_
  refine mvd ?_
  refine RL.gh (Gh.slx (t := 18) rfl) ?_
  refine mvd ?_
  refine RL.gh (Gh.slx (t := 19) rfl) ?_
  refine cl (xs := [.sl (L x), .sl (L y)]) ?_ d1 Try.call14
  refine mvt ?_
  refine ex ?_
  refine ex ?_
  refine ex ?_
  refine asd ?_
  refine asd ?_
  refine asd ?_
  refine rn ?_
  refine .gh (Gh.keep [0, 1, 5, 6, 7, 8, 9] rfl) ?_
  refine .seq ?_
  refine .region ?_
  refine mvd ?_
  refine cl (xs := [.sl (L a)]) ?_ v1 Try.call16
  refine mvd ?_
  refine cl (xs := [.sl (L b)]) ?_ v2 Try.call16
  refine cl (xs := [.sl (L x), .sl (L y)]) ?_ d2 Try.call15
  refine mvt ?_
  refine ex ?_
  refine ex ?_
  refine ex ?_
  refine asd ?_
  refine asd ?_
  refine asd ?_
  refine rn ?_
  refine .gh (Gh.keep [0, 1, 5, 6, 7, 8, 9, 10, 11, 12] rfl) ?_
  refine .seq ?_
  refine .region ?_
  refine cl (xs := []) ?_ live_fn Try.call17
  refine mvd ?_
  refine mvd ?_
  refine mvd ?_
  refine cl (xs := [.sl (L (digs q)), .sl (L (digs q))]) ?_ s1 Try.call18
  refine pkd ?_
  refine mvd ?_
  refine mvd ?_
  refine mvd ?_
  refine cl (xs := [.sl (L (digs r)), .sl (L (digs r))]) ?_ s2 Try.call18
  refine pkd ?_
  refine mvd ?_
  refine mvd ?_
  refine mvd ?_
  refine bbn ?_ (.inl rfl) bo
  rw [if_pos rfl, beq_self_eq_true]
  refine pkd ?_
  refine mvd ?_
  refine mvd ?_
  refine RL.gh (Gh.slx (t := 50) rfl) ?_
  refine mvd ?_
  refine RL.gh (Gh.slx (t := 51) rfl) ?_
  refine bsl ?_ ?_ e2
  · simp [DV.flat, DV.cells, DV.leaf]
  refine fz (p := .t 52) ?_
  refine cl (xs := [.sl (LL [x, y])]) ?_ g1 Try.call19
  refine mvd ?_
  refine cl (xs := [.sl (L a)]) ?_ v1 Try.call16
  refine mvd ?_
  refine cl (xs := [.sl (L b)]) ?_ v2 Try.call16
  refine bsl ?_ ?_ e2
  · simp [DV.flat, DV.cells, DV.leaf]
  refine fz (p := .t 58) ?_
  refine cl (xs := [.sl (LL [x, y])]) ?_ g2 Try.call20
  refine cl (xs := [.sl (L (digs g)), .sl (L (digs g))]) ?_ s3 Try.call18
  refine pkd ?_
  refine mvd ?_
  refine cl (xs := [.sl (LL [])]) ?_ e1 Try.call19
  refine ln ?_ (L_sz []) l32
  refine bi ?_
  refine pkd ?_
  refine mvd ?_
  refine mvd ?_
  refine mvd ?_
  refine cl (xs := [.slx (L x) (L [77, 78]), .sl (L a)]) ?_ k1 Try.call21
  refine pkd ?_
  refine mvd ?_
  refine mvd ?_
  refine mvd ?_
  refine cl (xs := [.slx (L y) (L [77, 78]), .sl (L b)]) ?_ k2 Try.call21
  refine pkd ?_
  refine asd ?_
  refine rn ?_
  refine .ret ?_
  exact ⟨rfl, rfl⟩
end Go.FL
/-
  The law NatDivisors: the greatest divisor of three divides each, in any order.
-/
namespace Go.FL
open Go Go.Proofs

theorem gcd_zero_of {x y z : Nat} (h : Nat.gcd (Nat.gcd x y) z = 0) : x = 0 ∧ y = 0 ∧ z = 0 := by
  have h1 := Nat.eq_zero_of_gcd_eq_zero_left h
  have h2 := Nat.eq_zero_of_gcd_eq_zero_right h
  exact ⟨Nat.eq_zero_of_gcd_eq_zero_left h1, Nat.eq_zero_of_gcd_eq_zero_right h1, h2⟩
theorem LL_flat (ls : List (List Nat)) : ∀ d ∈ LL ls, d.flat = true ∧ d.cells.length = 1 := by
  intro d hd
  simp only [LL, List.mem_map] at hd
  obtain ⟨n, _, rfl⟩ := hd
  exact ⟨rfl, rfl⟩
theorem NatDivisors_fn {a b c : List Nat} (ha : Ok a) (hb : Ok b) (hc : Ok c) : Fn Try.prog 6 [.sl (L a), .sl (L b), .sl (L c)] (.d (.b true)) := by
  have v1 := few_fn a
  have v2 := few_fn b
  have v3 := few_fn c
  have oa := ha.take 40
  have ob := hb.take 40
  have oc := hc.take 40
  have la : (a.take 40).length ≤ 40 := by rw [List.length_take]; omega
  have lb : (b.take 40).length ≤ 40 := by rw [List.length_take]; omega
  have lc : (c.take 40).length ≤ 40 := by rw [List.length_take]; omega
  generalize a.take 40 = x at *
  generalize b.take 40 = y at *
  generalize c.take 40 = z at *
  have va : val x < 4294967296 ^ 40 := Nat.lt_of_lt_of_le (val_lt oa) (Nat.pow_le_pow_right (by decide) la)
  have vb : val y < 4294967296 ^ 40 := Nat.lt_of_lt_of_le (val_lt ob) (Nat.pow_le_pow_right (by decide) lb)
  have vc : val z < 4294967296 ^ 40 := Nat.lt_of_lt_of_le (val_lt oc) (Nat.pow_le_pow_right (by decide) lc)
  have hls : ∀ w ∈ [x, y, z], Ok w ∧ w.length ≤ 40 := by
    simp only [List.mem_cons, List.not_mem_nil, or_false]
    rintro _ (rfl | rfl | rfl) <;> exact ⟨by assumption, by assumption⟩
  have g1 := Gcd_fn (M := 40) (ls := [x, y, z]) (by simp [oa, ob, oc]) (by simp [la, lb, lc]) (by simp) (by decide)
  have g2 := Gcd_fn (M := 40) (ls := [z, x, y]) (by simp [oa, ob, oc]) (by simp [la, lb, lc]) (by simp) (by decide)
  rw [show gcdF [x, y, z] = Nat.gcd (Nat.gcd (val x) (val y)) (val z) by show Nat.gcd (Nat.gcd (Nat.gcd 0 (val x)) (val y)) (val z) = _; rw [Nat.gcd_zero_left]] at g1
  rw [show gcdF [z, x, y] = Nat.gcd (Nat.gcd (val x) (val y)) (val z) by show Nat.gcd (Nat.gcd (Nat.gcd 0 (val z)) (val x)) (val y) = _; rw [Nat.gcd_zero_left, Nat.gcd_assoc, Nat.gcd_comm]] at g2
  have hgl : Nat.gcd (Nat.gcd (val x) (val y)) (val z) < 4294967296 ^ 40 := gcd_lt (gcd_lt va vb) vc
  have hdv : ∀ w ∈ [x, y, z], Nat.gcd (Nat.gcd (val x) (val y)) (val z) ∣ val w := by
    have hz := Nat.gcd_dvd_right (Nat.gcd (val x) (val y)) (val z)
    have hxy := Nat.gcd_dvd_left (Nat.gcd (val x) (val y)) (val z)
    have hx := Nat.dvd_trans hxy (Nat.gcd_dvd_left _ _)
    have hy := Nat.dvd_trans hxy (Nat.gcd_dvd_right _ _)
    simp only [List.mem_cons, List.not_mem_nil, or_false]
    rintro _ (rfl | rfl | rfl) <;> assumption
  generalize Nat.gcd (Nat.gcd (val x) (val y)) (val z) = g at *
  have lg := digs_len hgl
  have cf := Compare_fn (a := digs g) (b := digs g) (digs_ok _) (digs_ok _) (by omega) (by omega)
  rw [cmp_self] at cf
  refine Fn.of (rs := [.tmp 6]) (nt := 79) Try.func6 rfl rfl rfl (by simp) rfl ?_
  refine .seq ?_
  refine .region ?_
  refine asd ?_
  refine rn ?_
  refine .seq ?_
  refine .region ?_
  refine mvd ?_
  refine cl (xs := [.sl (L a)]) ?_ v1 Try.call16
  refine mvd ?_
  refine cl (xs := [.sl (L b)]) ?_ v2 Try.call16
  refine mvd ?_
  refine cl (xs := [.sl (L c)]) ?_ v3 Try.call16
  refine bsl ?_ ?_ e2
  · simp [DV.flat, DV.cells, DV.leaf]
  refine aso ?_
  refine rn ?_
  refine .gh (Gh.frz (p := .t 7) rfl (fun _ _ h => by cases h)) ?_
  refine .gh (Gh.keep [7] rfl) ?_
  show AW _ _ _ _ [(7, .d (.sl (LL [x, y, z])))] _
  refine .seq ?_
  refine .drawn 11 mixed (by kernel_rfl) ?_
  refine dv vmvd ?_
  refine dv (vix 0 rfl (LL_at (ls := [x, y, z]) (i := 0) (a := x) rfl) rfl s2) ?_
  refine dv (vldp a2) ?_
  refine dv vmvd ?_
  refine dv (vix 1 rfl (LL_at (ls := [x, y, z]) (i := 1) (a := y) rfl) rfl s2) ?_
  refine dv (vldp a2) ?_
  refine dv vmvd ?_
  refine dv (vix 2 rfl (LL_at (ls := [x, y, z]) (i := 2) (a := z) rfl) rfl s2) ?_
  refine dv (vldp a2) ?_
  refine dv (v := .d (.sl (LL [x, y, z]))) (vbsl (LL_flat [x, y, z]) e2).deep ?_
  refine dv (v := .d (.sl (L (digs g)))) (vcl (xs := [.sl (LL [x, y, z])]) (r := .d (.sl (L (digs g)))) g1 Try.call19) ?_
  refine dz ?_
  refine asd ?_
  refine rn ?_
  refine .gh (Gh.keep [7, 8] rfl) ?_
  refine .seq ?_
  refine .seq ?_
  refine .drawn 14 mixed (by kernel_rfl) ?_
  refine dv vmvd ?_
  refine dv vmvd ?_
  refine dv (vix 2 rfl (LL_at (ls := [x, y, z]) (i := 2) (a := z) rfl) rfl s2) ?_
  refine dv (vldp a2) ?_
  refine dv vmvd ?_
  refine dv (vix 0 rfl (LL_at (ls := [x, y, z]) (i := 0) (a := x) rfl) rfl s2) ?_
  refine dv (vldp a2) ?_
  refine dv vmvd ?_
  refine dv (vix 1 rfl (LL_at (ls := [x, y, z]) (i := 1) (a := y) rfl) rfl s2) ?_
  refine dv (vldp a2) ?_
  refine dv (v := .d (.sl (LL [z, x, y]))) (vbsl (LL_flat [z, x, y]) e2).deep ?_
  refine dv (v := .d (.sl (L (digs g)))) (vcl (xs := [.sl (LL [z, x, y])]) (r := .d (.sl (L (digs g)))) g2 Try.call19) ?_
  refine dv (v := .d (.i .i64 0)) (vcl (xs := [.sl (L (digs g)), .sl (L (digs g))]) (r := .d (.i .i64 0)) cf Try.call30) ?_
  refine dv vbi ?_
  refine dz ?_
  refine rn ?_
  refine cndf ?_
  refine .skip ?_
  show AW _ _ _ _ _ _
  refine .gh (Gh.keep [7, 8] rfl) ?_
  refine .mid (fun _ H' => True) ?_ ?_
  · refine .seq ?_
    refine .region ?_
    refine asd ?_
    refine rn ?_
    refine .block ?_
    refine .loop (.gh (Gh.keep [7, 8, 9] rfl) ?_)
    refine AL.ind (σ := Nat) (m := fun i => 3 - i) (e := fun i => [(7, .d (.sl (LL [x, y, z]))), (8, .d (.sl (L (digs g)))), (9, .d (.i .i64 (i : Int)))]) (h := fun _ => []) (I := fun i => i ≤ 3) ?_ 0 (by decide)
    intro i h1 ih
    refine .seq ?_
    refine .seq ?_
    refine .region ?_
    refine mvd ?_
    refine bi ?_
    refine rn ?_
    by_cases hi : i < 3
    · rw [decide_eq_true (show (i : Int) < 3 by omega)]
      have hy : [x, y, z][i]? = some ([x, y, z][i]'(by simpa using hi)) := List.getElem?_eq_getElem _
      have hm := List.mem_of_getElem? hy
      generalize [x, y, z][i]'(by simpa using hi) = w at hy hm
      obtain ⟨ow, lw⟩ := hls w hm
      have hd := hdv w hm
      have d1 := DivMod_fn (a := w) (b := digs g) ow (digs_ok g) (by omega) (by omega)
      rw [val_digs] at d1
      have hr : remN (val w) g = 0 := by
        unfold remN; split
        · rfl
        · exact Nat.mod_eq_zero_of_dvd hd
      rw [hr, digs_zero] at d1
      generalize digs (val w / g) = q at *
      refine cndt ?_
      refine .skip ?_
      show AW _ _ _ _ _ _
      refine .seq ?_
      refine .block ?_
      refine .seq ?_
      refine .region ?_
      refine mvd ?_
      refine mvd ?_
      refine ix i ?_ rfl (LL_at hy) rfl s2
      refine ldp ?_ a2
      refine mvd ?_
      refine cl (xs := [.sl (L w), .sl (L (digs g))]) ?_ d1 Try.call14
      refine mvt ?_
      refine ex ?_
      refine ex ?_
      refine ex ?_
      refine asd ?_
      refine asd ?_
      refine asd ?_
      refine rn ?_
      refine .gh (Gh.keep [7, 8, 9, 11, 12] rfl) ?_
      refine .seq ?_
      refine .region ?_
      by_cases hg : g = 0
      · have hw : val w = 0 := by rw [hg] at hd; exact Nat.eq_zero_of_zero_dvd hd
        have ft := Trim_fn ow (by omega)
        rw [hw, digs_zero] at ft
        rw [decide_eq_false (fun h => h hg)]
        refine mvd ?_
        refine mvd ?_
        refine gf ?_
        refine gf ?_
        refine gf ?_
        refine pkd ?_
        refine mvd ?_
        refine mvd ?_
        refine nt_ ?_
        refine mvd ?_
        refine mvd ?_
        refine mvd ?_
        refine ix i ?_ rfl (LL_at hy) rfl s2
        refine ldp ?_ a2
        refine cl (xs := [.sl (L w)]) ?_ ft Try.call26
        refine ln ?_ (L_sz []) l32
        refine bi ?_
        refine pkd ?_
        refine pkd ?_
        refine rn ?_
        refine cndf ?_
        refine .skip ?_
        show AW _ _ _ _ _ _
        refine .region ?_
        refine mvd ?_
        refine ad ((i + 1 : Nat) : Int) ?_ ?_
        · omega
        refine asd ?_
        refine rn ?_
        refine .gh (Gh.keep [7, 8, 9] rfl) ?_
        exact ih (i + 1) (by omega) (by omega)
      · rw [decide_eq_true hg]
        refine mvd ?_
        refine mvd ?_
        refine mvd ?_
        refine ln ?_ (L_sz []) l32
        refine bi ?_
        refine pkd ?_
        refine mvd ?_
        refine mvd ?_
        refine nt_ ?_
        refine mvd ?_
        refine gf ?_
        refine gf ?_
        refine gf ?_
        refine gf ?_
        refine gf ?_
        refine gf ?_
        refine gf ?_
        refine pkd ?_
        refine pkd ?_
        refine rn ?_
        refine cndf ?_
        refine .skip ?_
        show AW _ _ _ _ _ _
        refine .region ?_
        refine mvd ?_
        refine ad ((i + 1 : Nat) : Int) ?_ ?_
        · omega
        refine asd ?_
        refine rn ?_
        refine .gh (Gh.keep [7, 8, 9] rfl) ?_
        exact ih (i + 1) (by omega) (by omega)
    · rw [decide_eq_false (show ¬ (i : Int) < 3 by omega)]
      refine cndf ?_
      refine .exit ?_
      trivial
  intro _ _ _
  refine .gh (Gh.keep [] rfl) ?_
  refine .seq ?_
  refine .region ?_
  refine cl (xs := []) ?_ live_fn Try.call17
  refine asd ?_
  refine rn ?_
  refine .ret ?_
  exact ⟨rfl, rfl⟩
end Go.FL
