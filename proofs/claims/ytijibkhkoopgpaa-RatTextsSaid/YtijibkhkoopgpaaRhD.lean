/-
  Part 4 of the base of the proofs: a logic of our own over the calculus, the contracts of the functions
-/
import Derived.Test.YtijibkhkoopgpaaRhC
set_option linter.unusedVariables false
/-
  glyphref01: half, gcd (by halves and differences), Gcd.
-/
namespace Go.FL
open Go Go.Proofs

theorem u64_and1 (m : Nat) (h : m < 18446744073709551616) : bits .and .u64 (m : Int) 1 = ((m % 2 : Nat) : Int) := by
  have := bits_mask .u64 64 (by decide) wraps_u64 1 (by decide) (m : Int) (by omega) (by omega)
  rw [show (2 : Int) ^ 1 - 1 = 1 by decide] at this
  rw [this]; simp
theorem half_join {x y : Nat} (hx : x < 4294967296) : bits .or .u32 ((x / 2 : Nat) : Int) ((y % 2 * 2147483648 : Nat) : Int) = (((x + y * 4294967296) / 2 ^ 1 % 4294967296 : Nat) : Int) := by
  rw [bits_join_low .u32 32 (by decide) wraps_u32 31 _ _ (by omega) (by omega) (by omega) (by omega) (by omega) (by omega)]
  omega
theorem headD_drop (a : List Nat) (i : Nat) : (a.drop i).headD 0 = a.getD i 0 := by
  rw [List.headD_eq_head?_getD, List.head?_drop, List.getD_eq_getElem?_getD]
theorem half_fn {a : List Nat} (ha : Ok a) (hl : a.length ≤ 1000000) : Fn Try.prog 130 [.sl (L a)] (.own 65 (L (digs (val a / 2)))) := by
  obtain ⟨s1, s2⟩ := shR_val (n := 1) (by decide) a ha
  have s3 := shR_length 1 a
  refine Fn.of (rs := [.tmp 2]) (nt := 29) Try.func130 rfl rfl rfl (by simp) rfl ?_
  refine .seq ?_
  refine .region ?_
  refine asn ?_
  refine rn ?_
  refine .seq ?_
  refine .region ?_
  refine asn ?_
  refine rn ?_
  refine .mid (fun e H' => e = [(3, .own 65 (L (shR 1 a)))] ∧ H' = []) ?_ ?_
  · refine .seq ?_
    refine .region ?_
    refine asd ?_
    refine rn ?_
    refine .block ?_
    refine .gh (Gh.nlOwn (t := 3) 65 z32p rfl) ?_
    refine .loop (.gh (Gh.keep [0, 3, 4] rfl) ?_)
    refine AL.ind (σ := Nat) (m := fun i => a.length - i) (e := fun i => [(0, .d (.sl (L a))), (3, .own 65 (L ((shR 1 a).take i))), (4, .d (.i .i64 (i : Int)))]) (h := fun _ => [])
      (I := fun i => i ≤ a.length) ?_ 0 (Nat.zero_le _)
    intro i h1 ih
    refine .seq ?_
    refine .seq ?_
    refine .region ?_
    refine mvd ?_
    refine mvd ?_
    refine ln ?_ (L_sz _) l32
    refine bi ?_
    refine rn ?_
    by_cases hi : i < a.length
    · rw [decide_eq_true (show (i : Int) < ((L a).length : Nat) by rw [L_length]; omega)]
      have hx : a[i]? = some a[i] := List.getElem?_eq_getElem hi
      generalize a[i] = x at hx
      have hxl := ha.at hx
      have hyl := getD_lt ha (i + 1)
      have hsh := shR_at 1 a i x hx
      rw [headD_drop] at hsh
      have flm := limb_fn (a := a) ha (i := i + 1) (by omega)
      have htk : (shR 1 a).take (i + 1) = (shR 1 a).take i ++ [(x + a.getD (i + 1) 0 * 4294967296) / 2 ^ 1 % 4294967296] := by
        rw [List.take_add_one, hsh]; rfl
      generalize a.getD (i + 1) 0 = y at *
      have hout : ((shR 1 a).take i).length = i := by rw [List.length_take]; omega
      generalize (shR 1 a).take i = out at *
      have hj := half_join (x := x) (y := y) hxl
      generalize (x + y * 4294967296) / 2 ^ 1 % 4294967296 = z at *
      have hsz : ∀ d ∈ L [z], d.flat = true ∧ d.cells.length = 1 := by
        intro d hd
        simp only [L, List.map_cons, List.map_nil, List.mem_cons, List.not_mem_nil, or_false] at hd
        subst hd; exact ⟨rfl, rfl⟩
      refine cndt ?_
      refine .skip ?_
      show AW _ _ _ _ _ _
      refine .seq ?_
      refine .block ?_
      refine .drawn 15 mixed (by kernel_rfl) ?_
      refine dv vmvo ?_
      refine dv vmvd ?_
      refine dv vmvd ?_
      refine dv (vix i rfl (L_at hx) rfl s32) ?_
      refine dv (vldp a32) ?_
      refine dv (vbie (.i .u32 ((x / 2 : Nat) : Int)) ?_) ?_
      · simp [IntKind.bits]
      refine dv vmvd ?_
      refine dv vmvd ?_
      refine dv (vad ((i + 1 : Nat) : Int) ?_) ?_
      · omega
      refine dv (v := .d (.i .u64 (y : Int))) (vcl (xs := [.sl (L a), .i .i64 ((i + 1 : Nat) : Int)]) flm Try.call117) ?_
      refine dv (vbie (.i .u64 ((y % 2 : Nat) : Int)) ?_) ?_
      · exact ⟨trivial, by rw [u64_and1 y (by omega)]⟩
      refine dv (vcve ((y % 2 : Nat) : Int) (toU32 (by omega)) u64 u32) ?_
      refine dv (vbie (.i .u32 ((y % 2 * 2147483648 : Nat) : Int)) ?_) ?_
      · refine ⟨by decide, ?_⟩
        have : IntKind.u32.wrap ((y % 2 * 2147483648 : Nat) : Int) = ((y % 2 * 2147483648 : Nat) : Int) := toU32 (by omega)
        rw [← this]; simp [IntKind.bits]
      refine dv (vbie (.i .u32 (z : Int)) ?_) ?_
      · exact ⟨trivial, by rw [hj]⟩
      refine dv (v := .d (.sl (L [z]))) (vbsl hsz e32).deep ?_
      refine dz ?_
      refine apr ?_ ?_ (L_sz1 [z]) e32
      · simp [L_length]; omega
      refine aso ?_
      refine .nil ?_
      show AW _ _ _ _ _ _
      refine .region ?_
      refine mvd ?_
      refine ad ((i + 1 : Nat) : Int) ?_ ?_
      · omega
      refine asd ?_
      refine rn ?_
      refine .gh (Gh.keep [0, 3, 4] rfl) ?_
      have := ih (i + 1) (by omega) (by omega)
      rw [htk, ← L_snoc] at this
      exact this
    · rw [decide_eq_false (show ¬ (i : Int) < ((L a).length : Nat) by rw [L_length]; omega)]
      refine cndf ?_
      refine .gh (Gh.keep [3] rfl) ?_
      refine .exit ?_
      have e1 : (shR 1 a).take i = shR 1 a := List.take_of_length_le (by omega)
      exact ⟨by rw [e1]; rfl, rfl⟩
  rintro _ _ ⟨rfl, rfl⟩
  refine .gh (Gh.frz (p := .t 3) rfl (fun _ _ h => by cases h)) ?_
  refine .seq ?_
  refine .region ?_
  refine mvd ?_
  refine cl (xs := [.sl (L (shR 1 a))]) ?_ (refTrim_fn s2 (by omega)) Try.call61
  refine aso ?_
  refine rn ?_
  refine .ret ?_
  exact ⟨by rw [s1]; rfl, rfl⟩

theorem gcd_even {k y : Nat} (h : y % 2 = 1) : Nat.gcd (2 * k) y = Nat.gcd k y := by
  have hc : Nat.Coprime 2 y := by rw [Nat.coprime_iff_gcd_eq_one, Nat.gcd_rec, h]; decide
  exact hc.gcd_mul_left_cancel k
theorem gcd_halfL {x y : Nat} (hx : x % 2 = 0) (h : y % 2 = 1) : Nat.gcd (x / 2) y = Nat.gcd x y := by
  have := gcd_even (k := x / 2) h
  rw [show 2 * (x / 2) = x by omega] at this
  exact this.symm
theorem gcd_halfR {x y : Nat} (hx : x % 2 = 1) (h : y % 2 = 0) : Nat.gcd x (y / 2) = Nat.gcd x y := by
  rw [Nat.gcd_comm x, Nat.gcd_comm x]; exact gcd_halfL h hx
theorem gcd_subL {x y : Nat} (h : y ≤ x) : Nat.gcd (x - y) y = Nat.gcd x y := by
  have := Nat.gcd_sub_mul_right_left (m := y) (n := x) (k := 1) (by omega)
  rwa [Nat.one_mul] at this
theorem gcd_subR {x y : Nat} (h : x ≤ y) : Nat.gcd x (y - x) = Nat.gcd x y := by
  rw [Nat.gcd_comm x, Nat.gcd_comm x]; exact gcd_subL h
theorem gcd_end {x y : Nat} (h : x = 0 ∨ y = 0) : x + y = Nat.gcd x y := by
  rcases h with rfl | rfl <;> simp
theorem two_lim {x t M V : Nat} (h : x * 2 ^ t = V) (hx : 0 < x) (hV : V < 4294967296 ^ M) : t < 32 * M := by
  have h1 : 2 ^ t ≤ V := by rw [← h]; exact Nat.le_mul_of_pos_left _ hx
  have h2 : 2 ^ t < 2 ^ (32 * M) := by rw [Nat.pow_mul]; exact Nat.lt_of_le_of_lt h1 hV
  exact (Nat.pow_lt_pow_iff_right (by decide)).1 h2
theorem two_up {x t V : Nat} (h : x * 2 ^ t = V) (he : x % 2 = 0) : x / 2 * 2 ^ (t + 1) = V := by
  have : x = 2 * (x / 2) := by omega
  generalize x / 2 = k at *
  subst this
  rw [← h, Nat.pow_succ]; grind
theorem digs_head {x : Nat} (h : 0 < x) : (digs x)[0]? = some (x % 4294967296) := by
  rw [digs_pos (by omega)]; rfl
theorem par32 (x : Nat) : decide (((x % 4294967296 % 2 : Nat) : Int) = 0) = decide (x % 2 = 0) := by
  rw [show x % 4294967296 % 2 = x % 2 by omega]
  by_cases h : x % 2 = 0
  · rw [h]; rfl
  · rw [decide_eq_false h, decide_eq_false (by omega)]
theorem pos_ln {x : Nat} (h : 0 < x) : (0 : Int) < ((L (digs x)).length : Nat) := by
  have := digs_ne h
  rw [L_length]; omega
theorem cmp_ge {x y : Nat} : (0 : Int) ≤ cmpN x y ↔ y ≤ x := by
  unfold cmpN
  by_cases h1 : x < y
  · rw [if_pos h1]; omega
  · rw [if_neg h1]; split <;> omega
theorem minN_of {x y : Nat} (h : y ≤ x) : minN x y = x - y := by
  unfold minN; split <;> omega
theorem ref_gcd_fn {M : Nat} {a b : List Nat} (ha : Ok a) (hb : Ok b) (hla : a.length ≤ M) (hlb : b.length ≤ M) (hM : M ≤ 100000) : Fn Try.prog 110 [.sl (L a), .sl (L b)] (.d (.sl (L (digs (Nat.gcd (val a) (val b)))))) := by
  have hva : val a < 4294967296 ^ M := Nat.lt_of_lt_of_le (val_lt ha) (Nat.pow_le_pow_right (by decide) hla)
  have hvb : val b < 4294967296 ^ M := Nat.lt_of_lt_of_le (val_lt hb) (Nat.pow_le_pow_right (by decide) hlb)
  have hgl : Nat.gcd (val a) (val b) < 4294967296 ^ M := gcd_lt hva hvb
  have dl : ∀ {x : Nat}, x < 4294967296 ^ M → (digs x).length ≤ 100000 := fun h => Nat.le_trans (digs_len h) hM
  refine Fn.of (rs := [.tmp 4]) (nt := 90) Try.func110 rfl rfl rfl (by simp) rfl ?_
  refine .seq ?_
  refine .region ?_
  refine asn ?_
  refine rn ?_
  refine .seq ?_
  refine .region ?_
  refine mvd ?_
  refine cl (xs := [.sl (L a)]) ?_ (refTrim_fn ha (by omega)) Try.call61
  refine mvd ?_
  refine cl (xs := [.sl (L b)]) ?_ (refTrim_fn hb (by omega)) Try.call61
  refine aso ?_
  refine aso ?_
  refine rn ?_
  refine .gh (Gh.frz (p := .t 0) rfl (fun _ _ h => by cases h)) ?_
  refine .gh (Gh.frz (p := .t 1) rfl (fun _ _ h => by cases h)) ?_
  refine .seq ?_
  refine .region ?_
  refine asd ?_
  refine rn ?_
  refine .gh (Gh.keep [0, 1, 5] rfl) ?_
  refine .mid (fun e H' => H' = [] ∧ ∃ x y t, x < 4294967296 ^ M ∧ y < 4294967296 ^ M ∧ t ≤ 32 * M ∧ x * 2 ^ t = val a ∧ y * 2 ^ t = val b ∧ (x = 0 ∨ y = 0 ∨ x % 2 = 1 ∨ y % 2 = 1) ∧ e = [(0, .d (.sl (L (digs x)))), (1, .d (.sl (L (digs y)))), (5, .d (.i .i64 (t : Int)))]) ?_ ?_
  · refine .block ?_
    refine .loop ?_
    refine AL.ind (σ := Nat × Nat × Nat) (m := fun s => s.1) (e := fun s => [(0, .d (.sl (L (digs s.1)))), (1, .d (.sl (L (digs s.2.1)))), (5, .d (.i .i64 (s.2.2 : Int)))]) (h := fun _ => [])
      (I := fun s => s.1 < 4294967296 ^ M ∧ s.2.1 < 4294967296 ^ M ∧ s.2.2 ≤ 32 * M ∧ s.1 * 2 ^ s.2.2 = val a ∧ s.2.1 * 2 ^ s.2.2 = val b) ?_ (val a, val b, 0) ⟨hva, hvb, Nat.zero_le _, by simp, by simp⟩
    rintro ⟨x, y, t⟩ ⟨h1, h2, h3, h4, h5⟩ ih
    dsimp only at h1 h2 h3 h4 h5 ih ⊢
    refine .mid (fun e H' => H' = [] ∧ 0 < x ∧ 0 < y ∧ x % 2 = 0 ∧ y % 2 = 0 ∧ e = [(0, .d (.sl (L (digs x)))), (1, .d (.sl (L (digs y)))), (5, .d (.i .i64 (t : Int)))]) ?_ ?_
    · refine .seq ?_
      refine .region ?_
      refine mvd ?_
      refine ln ?_ (L_sz _) l32
      refine bi ?_
      refine mvd ?_
      by_cases hx : x = 0
      · rw [hx, decide_eq_false (show ¬ (0 : Int) < ((L (digs 0)).length : Nat) by rw [digs_zero]; decide)]
        refine gf ?_
        refine gf ?_
        refine gf ?_
        refine pkd ?_
        refine mvd ?_
        refine gf ?_
        refine gf ?_
        refine gf ?_
        refine gf ?_
        refine gf ?_
        refine pkd ?_
        refine mvd ?_
        refine gf ?_
        refine gf ?_
        refine gf ?_
        refine gf ?_
        refine gf ?_
        refine pkd ?_
        refine rn ?_
        refine cndf ?_
        refine .gh (Gh.keep [0, 1, 5] rfl) ?_
        refine .exit ?_
        subst hx
        exact ⟨rfl, 0, y, t, h1, h2, h3, h4, h5, .inl rfl, rfl⟩
      rw [decide_eq_true (pos_ln (show 0 < x by omega))]
      refine mvd ?_
      refine ln ?_ (L_sz _) l32
      refine bi ?_
      by_cases hy : y = 0
      · rw [hy, decide_eq_false (show ¬ (0 : Int) < ((L (digs 0)).length : Nat) by rw [digs_zero]; decide)]
        refine pkd ?_
        refine mvd ?_
        refine gf ?_
        refine gf ?_
        refine gf ?_
        refine gf ?_
        refine gf ?_
        refine pkd ?_
        refine mvd ?_
        refine gf ?_
        refine gf ?_
        refine gf ?_
        refine gf ?_
        refine gf ?_
        refine pkd ?_
        refine rn ?_
        refine cndf ?_
        refine .gh (Gh.keep [0, 1, 5] rfl) ?_
        refine .exit ?_
        subst hy
        exact ⟨rfl, x, 0, t, h1, h2, h3, h4, h5, .inr (.inl rfl), rfl⟩
      rw [decide_eq_true (pos_ln (show 0 < y by omega))]
      refine pkd ?_
      refine mvd ?_
      refine mvd ?_
      refine ix 0 ?_ rfl (L_at (digs_head (show 0 < x by omega))) rfl s32
      refine ldp ?_ a32
      refine bie (.i .u32 ((x % 4294967296 % 2 : Nat) : Int)) ?_ ?_
      · exact ⟨trivial, by rw [u32_and1 _ (Nat.mod_lt _ (by decide))]⟩
      refine bi ?_
      rw [par32]
      by_cases hx2 : x % 2 = 0
      · rw [decide_eq_true hx2]
        refine pkd ?_
        refine mvd ?_
        refine mvd ?_
        refine ix 0 ?_ rfl (L_at (digs_head (show 0 < y by omega))) rfl s32
        refine ldp ?_ a32
        refine bie (.i .u32 ((y % 4294967296 % 2 : Nat) : Int)) ?_ ?_
        · exact ⟨trivial, by rw [u32_and1 _ (Nat.mod_lt _ (by decide))]⟩
        refine bi ?_
        rw [par32]
        by_cases hy2 : y % 2 = 0
        · rw [decide_eq_true hy2]
          refine pkd ?_
          refine rn ?_
          refine cndt ?_
          refine .gh (Gh.keep [0, 1, 5] rfl) ?_
          refine .skip ?_
          exact ⟨rfl, by omega, by omega, hx2, hy2, rfl⟩
        · rw [decide_eq_false hy2]
          refine pkd ?_
          refine rn ?_
          refine cndf ?_
          refine .gh (Gh.keep [0, 1, 5] rfl) ?_
          refine .exit ?_
          exact ⟨rfl, x, y, t, h1, h2, h3, h4, h5, .inr (.inr (.inr (by omega))), rfl⟩
      · rw [decide_eq_false hx2]
        refine pkd ?_
        refine mvd ?_
        refine gf ?_
        refine gf ?_
        refine gf ?_
        refine gf ?_
        refine gf ?_
        refine pkd ?_
        refine rn ?_
        refine cndf ?_
        refine .gh (Gh.keep [0, 1, 5] rfl) ?_
        refine .exit ?_
        exact ⟨rfl, x, y, t, h1, h2, h3, h4, h5, .inr (.inr (.inl (by omega))), rfl⟩
    rintro _ _ ⟨rfl, hx, hy, hx2, hy2, rfl⟩
    have hlim := two_lim h4 hx hva
    have f1 := half_fn (a := digs x) (digs_ok x) (Nat.le_trans (dl h1) (by decide))
    have f2 := half_fn (a := digs y) (digs_ok y) (Nat.le_trans (dl h2) (by decide))
    rw [val_digs] at f1 f2
    refine .block ?_
    refine .seq ?_
    refine .region ?_
    refine mvd ?_
    refine cl (xs := [.sl (L (digs x))]) ?_ f1 Try.call130
    refine mvd ?_
    refine cl (xs := [.sl (L (digs y))]) ?_ f2 Try.call130
    refine aso ?_
    refine aso ?_
    refine rn ?_
    refine .gh (Gh.frz (p := .t 0) rfl (fun _ _ h => by cases h)) ?_
    refine .gh (Gh.frz (p := .t 1) rfl (fun _ _ h => by cases h)) ?_
    refine .gh (Gh.keep [0, 1, 5] rfl) ?_
    refine .region ?_
    refine mvd ?_
    refine ad ((t + 1 : Nat) : Int) ?_ ?_
    · omega
    refine asd ?_
    refine .nil ?_
    refine AL.gh (Gh.keep [0, 1, 5] rfl) ?_
    exact ih (x / 2, y / 2, t + 1) ⟨by dsimp only; omega, by dsimp only; omega, by dsimp only; omega, two_up h4 hx2, two_up h5 hy2⟩ (by dsimp only; omega)
  rintro _ _ ⟨rfl, x0, y0, t, h1, h2, h3, h4, h5, h6, rfl⟩
  have hG : Nat.gcd x0 y0 * 2 ^ t = Nat.gcd (val a) (val b) := by rw [← h4, ← h5, Nat.gcd_mul_right]
  rw [← hG] at hgl ⊢
  have htl : 32 * M ≤ 3200000 := by omega
  clear h4 h5 hG
  refine .mid (fun e H' => H' = [] ∧ ∃ x y, x < 4294967296 ^ M ∧ y < 4294967296 ^ M ∧ x + y = Nat.gcd x0 y0 ∧ e = [(0, .d (.sl (L (digs x)))), (1, .d (.sl (L (digs y)))), (5, .d (.i .i64 (t : Int)))]) ?_ ?_
  · refine .block ?_
    refine .loop ?_
    refine AL.ind (σ := Nat × Nat) (m := fun s => s.1 + s.2) (e := fun s => [(0, .d (.sl (L (digs s.1)))), (1, .d (.sl (L (digs s.2)))), (5, .d (.i .i64 (t : Int)))]) (h := fun _ => [])
      (I := fun s => s.1 < 4294967296 ^ M ∧ s.2 < 4294967296 ^ M ∧ Nat.gcd s.1 s.2 = Nat.gcd x0 y0 ∧ (s.1 = 0 ∨ s.2 = 0 ∨ s.1 % 2 = 1 ∨ s.2 % 2 = 1)) ?_ (x0, y0) ⟨h1, h2, rfl, h6⟩
    rintro ⟨x, y⟩ ⟨g1, g2, g3, g4⟩ ih
    dsimp only at g1 g2 g3 g4 ih ⊢
    refine .mid (fun e H' => H' = [] ∧ 0 < x ∧ 0 < y ∧ e = [(0, .d (.sl (L (digs x)))), (1, .d (.sl (L (digs y)))), (5, .d (.i .i64 (t : Int)))]) ?_ ?_
    · refine .seq ?_
      refine .region ?_
      refine mvd ?_
      refine ln ?_ (L_sz _) l32
      refine bi ?_
      refine mvd ?_
      by_cases hx : x = 0
      · rw [hx, decide_eq_false (show ¬ (0 : Int) < ((L (digs 0)).length : Nat) by rw [digs_zero]; decide)]
        refine gf ?_
        refine gf ?_
        refine gf ?_
        refine pkd ?_
        refine rn ?_
        refine cndf ?_
        refine .gh (Gh.keep [0, 1, 5] rfl) ?_
        refine .exit ?_
        subst hx
        exact ⟨rfl, 0, y, g1, g2, by rw [gcd_end (.inl rfl), g3], rfl⟩
      rw [decide_eq_true (pos_ln (show 0 < x by omega))]
      refine mvd ?_
      refine ln ?_ (L_sz _) l32
      refine bi ?_
      by_cases hy : y = 0
      · rw [hy, decide_eq_false (show ¬ (0 : Int) < ((L (digs 0)).length : Nat) by rw [digs_zero]; decide)]
        refine pkd ?_
        refine rn ?_
        refine cndf ?_
        refine .gh (Gh.keep [0, 1, 5] rfl) ?_
        refine .exit ?_
        subst hy
        exact ⟨rfl, x, 0, g1, g2, by rw [gcd_end (.inr rfl), g3], rfl⟩
      rw [decide_eq_true (pos_ln (show 0 < y by omega))]
      refine pkd ?_
      refine rn ?_
      refine cndt ?_
      refine .gh (Gh.keep [0, 1, 5] rfl) ?_
      refine .skip ?_
      exact ⟨rfl, by omega, by omega, rfl⟩
    rintro _ _ ⟨rfl, hx, hy, rfl⟩
    refine .block ?_
    refine .block ?_
    refine .seq ?_
    refine .region ?_
    refine mvd ?_
    refine ix 0 ?_ rfl (L_at (digs_head hx)) rfl s32
    refine ldp ?_ a32
    refine bie (.i .u32 ((x % 4294967296 % 2 : Nat) : Int)) ?_ ?_
    · exact ⟨trivial, by rw [u32_and1 _ (Nat.mod_lt _ (by decide))]⟩
    refine bi ?_
    refine asd ?_
    refine rn ?_
    rw [par32]
    by_cases hx2 : x % 2 = 0
    · rw [decide_eq_true hx2]
      have f1 := half_fn (a := digs x) (digs_ok x) (Nat.le_trans (dl g1) (by decide))
      rw [val_digs] at f1
      refine cndt ?_
      refine .gh (Gh.keep [0, 1, 5] rfl) ?_
      refine .region ?_
      refine mvd ?_
      refine cl (xs := [.sl (L (digs x))]) ?_ f1 Try.call130
      refine aso ?_
      refine RL.gh (Gh.frz (p := .t 0) rfl (fun _ _ h => by cases h)) ?_
      refine .nil ?_
      refine AL.gh (Gh.keep [0, 1, 5] rfl) ?_
      exact ih (x / 2, y) ⟨by dsimp only; omega, g2, by dsimp only; rw [← g3]; exact gcd_halfL hx2 (by omega), .inr (.inr (.inr (by dsimp only; omega)))⟩ (by dsimp only; omega)
    rw [decide_eq_false hx2]
    refine cndf ?_
    refine .gh (Gh.keep [0, 1, 5] rfl) ?_
    refine .seq ?_
    refine .region ?_
    refine mvd ?_
    refine ix 0 ?_ rfl (L_at (digs_head hy)) rfl s32
    refine ldp ?_ a32
    refine bie (.i .u32 ((y % 4294967296 % 2 : Nat) : Int)) ?_ ?_
    · exact ⟨trivial, by rw [u32_and1 _ (Nat.mod_lt _ (by decide))]⟩
    refine bi ?_
    refine asd ?_
    refine rn ?_
    rw [par32]
    by_cases hy2 : y % 2 = 0
    · rw [decide_eq_true hy2]
      have f1 := half_fn (a := digs y) (digs_ok y) (Nat.le_trans (dl g2) (by decide))
      rw [val_digs] at f1
      refine cndt ?_
      refine .gh (Gh.keep [0, 1, 5] rfl) ?_
      refine .region ?_
      refine mvd ?_
      refine cl (xs := [.sl (L (digs y))]) ?_ f1 Try.call130
      refine aso ?_
      refine RL.gh (Gh.frz (p := .t 1) rfl (fun _ _ h => by cases h)) ?_
      refine .nil ?_
      refine AL.gh (Gh.keep [0, 1, 5] rfl) ?_
      exact ih (x, y / 2) ⟨g1, by dsimp only; omega, by dsimp only; rw [← g3]; exact gcd_halfR (by omega) hy2, .inr (.inr (.inl (by dsimp only; omega)))⟩ (by dsimp only; omega)
    rw [decide_eq_false hy2]
    have fc := refCompare_fn (a := digs x) (b := digs y) (digs_ok x) (digs_ok y) (Nat.le_trans (dl g1) (by decide)) (Nat.le_trans (dl g2) (by decide))
    rw [val_digs, val_digs] at fc
    refine cndf ?_
    refine .gh (Gh.keep [0, 1, 5] rfl) ?_
    refine .seq ?_
    refine .region ?_
    refine mvd ?_
    refine mvd ?_
    refine cl (xs := [.sl (L (digs x)), .sl (L (digs y))]) ?_ fc Try.call68
    refine bi ?_
    refine asd ?_
    refine rn ?_
    by_cases hle : y ≤ x
    · rw [decide_eq_true (cmp_ge.2 hle)]
      have fm := refMinus_fn (a := digs x) (b := digs y) (digs_ok x) (digs_ok y) (Nat.le_trans (dl g1) (by decide)) (Nat.le_trans (dl g2) (by decide))
      rw [val_digs, val_digs, minN_of hle] at fm
      refine cndt ?_
      refine .gh (Gh.keep [0, 1, 5] rfl) ?_
      refine .region ?_
      refine mvd ?_
      refine mvd ?_
      refine cl (xs := [.sl (L (digs x)), .sl (L (digs y))]) ?_ fm Try.call114
      refine mvt ?_
      refine ex ?_
      refine ex ?_
      refine asd ?_
      refine .nil ?_
      refine AL.gh (Gh.keep [0, 1, 5] rfl) ?_
      exact ih (x - y, y) ⟨by dsimp only; omega, g2, by dsimp only; rw [← g3]; exact gcd_subL hle, .inr (.inr (.inr (by dsimp only; omega)))⟩ (by dsimp only; omega)
    · rw [decide_eq_false (fun h => hle (cmp_ge.1 h))]
      have fm := refMinus_fn (a := digs y) (b := digs x) (digs_ok y) (digs_ok x) (Nat.le_trans (dl g2) (by decide)) (Nat.le_trans (dl g1) (by decide))
      rw [val_digs, val_digs, minN_of (show x ≤ y by omega)] at fm
      refine cndf ?_
      refine .gh (Gh.keep [0, 1, 5] rfl) ?_
      refine .region ?_
      refine mvd ?_
      refine mvd ?_
      refine cl (xs := [.sl (L (digs y)), .sl (L (digs x))]) ?_ fm Try.call114
      refine mvt ?_
      refine ex ?_
      refine ex ?_
      refine asd ?_
      refine .nil ?_
      refine AL.gh (Gh.keep [0, 1, 5] rfl) ?_
      exact ih (x, y - x) ⟨g1, by dsimp only; omega, by dsimp only; rw [← g3]; exact gcd_subR (by omega), .inr (.inr (.inl (by dsimp only; omega)))⟩ (by dsimp only; omega)
  rintro _ _ ⟨rfl, x, y, k1, k2, k3, rfl⟩
  have fa := Add_fn (a := digs x) (b := digs y) (digs_ok x) (digs_ok y) (Nat.le_trans (dl k1) (by decide)) (Nat.le_trans (dl k2) (by decide))
  rw [val_digs, val_digs, k3] at fa
  refine .seq ?_
  refine .region ?_
  refine mvd ?_
  refine mvd ?_
  refine cl (xs := [.sl (L (digs x)), .sl (L (digs y))]) ?_ fa Try.call77
  refine aso ?_
  refine rn ?_
  refine .gh (Gh.frz (p := .t 6) rfl (fun _ _ h => by cases h)) ?_
  refine .gh (Gh.keep [5, 6] rfl) ?_
  generalize Nat.gcd x0 y0 = G at *
  refine .mid (fun e H' => e = [(6, .d (.sl (L (digs (G * 2 ^ t)))))]) ?_ ?_
  · refine .block ?_
    refine .loop ?_
    refine AL.ind (σ := Nat × Nat) (m := fun s => s.1) (e := fun s => [(5, .d (.i .i64 (s.1 : Int))), (6, .d (.sl (L (digs s.2))))]) (h := fun _ => [])
      (I := fun s => s.1 ≤ 3200000 ∧ s.2 * 2 ^ s.1 = G * 2 ^ t) ?_ (t, G) ⟨by dsimp only; omega, rfl⟩
    rintro ⟨s, g⟩ ⟨g1, g2⟩ ih
    dsimp only at g1 g2 ih ⊢
    have hgv : g < 4294967296 ^ M := by
      have : g ≤ g * 2 ^ s := Nat.le_mul_of_pos_right _ (Nat.pow_pos (by decide))
      omega
    refine .seq ?_
    refine .seq ?_
    refine .region ?_
    refine mvd ?_
    refine bi ?_
    refine rn ?_
    cases s with
    | zero =>
      refine cndf ?_
      refine .gh (Gh.keep [6] rfl) ?_
      refine .exit ?_
      rw [← g2, Nat.pow_zero, Nat.mul_one]; rfl
    | succ s =>
      have ft := twice_fn (a := digs g) (c0 := 0) (digs_ok g) (Nat.le_trans (dl hgv) (by decide)) (by decide)
      rw [val_digs, Nat.add_zero] at ft
      rw [decide_eq_true (show (0 : Int) < ((s + 1 : Nat) : Int) by omega)]
      refine cndt ?_
      refine .skip ?_
      show AW _ _ _ _ _ _
      refine .seq ?_
      refine .block ?_
      refine .region ?_
      refine mvd ?_
      refine cl (xs := [.sl (L (digs g)), .i .u32 ((0 : Nat) : Int)]) ?_ ft Try.call112
      refine aso ?_
      refine RL.gh (Gh.frz (p := .t 6) rfl (fun _ _ h => by cases h)) ?_
      refine .nil ?_
      show AW _ _ _ _ _ _
      refine .region ?_
      refine mvd ?_
      refine su (s : Int) ?_ ?_
      · omega
      refine asd ?_
      refine rn ?_
      refine .gh (Gh.keep [5, 6] rfl) ?_
      exact ih (s, 2 * g) ⟨by dsimp only; omega, by dsimp only; rw [← g2, Nat.pow_succ]; grind⟩ (by dsimp only; omega)
  rintro _ _ rfl
  refine .seq ?_
  refine .region ?_
  refine mvd ?_
  refine asd ?_
  refine rn ?_
  refine .ret ?_
  exact ⟨rfl, rfl⟩
end Go.FL
/-
  glyphref01.Gcd.
-/
namespace Go.FL
open Go Go.Proofs

theorem refGcd_fn {M : Nat} {ls : List (List Nat)} (h : ∀ a ∈ ls, Ok a) (hM : ∀ a ∈ ls, a.length ≤ M) (hl : ls.length ≤ 1000) (hM2 : M ≤ 100000) : Fn Try.prog 62 [.sl (LL ls)] (.d (.sl (L (digs (gcdF ls))))) := by
  have hv : ∀ a ∈ ls, val a < 4294967296 ^ M := fun a ha => Nat.lt_of_lt_of_le (val_lt (h a ha)) (Nat.pow_le_pow_right (by decide) (hM a ha))
  have hP : 0 < 4294967296 ^ M := Nat.pow_pos (by decide)
  refine Fn.of (rs := [.tmp 2]) (nt := 18) Try.func62 rfl rfl rfl (by simp) rfl ?_
  refine .seq ?_
  refine .region ?_
  refine asn ?_
  refine rn ?_
  refine .seq ?_
  refine .region ?_
  refine asn ?_
  refine rn ?_
  refine .mid (fun e H' => e = [(3, .d (.sl (L (digs (gcdF ls)))))]) ?_ ?_
  · refine .seq ?_
    refine .region ?_
    refine asd ?_
    refine rn ?_
    refine .block ?_
    refine .gh (Gh.nlD (t := 3) rfl) ?_
    refine .loop (.gh (Gh.keep [0, 3, 4] rfl) ?_)
    refine AL.cast (env' := [(0, .d (.sl (LL ls))), (3, .d (.sl (L (digs (gcdF (ls.take 0)))))), (4, .d (.i .i64 ((0 : Nat) : Int)))]) (by rw [List.take_zero]; show _ = [(0, AV.d (.sl (LL ls))), (3, AV.d (.sl (L (digs 0)))), _]; rw [digs_zero]; rfl) ?_
    refine AL.ind (σ := Nat) (m := fun i => ls.length - i) (e := fun i => [(0, .d (.sl (LL ls))), (3, .d (.sl (L (digs (gcdF (ls.take i)))))), (4, .d (.i .i64 (i : Int)))]) (h := fun _ => [])
      (I := fun i => i ≤ ls.length ∧ gcdF (ls.take i) < 4294967296 ^ M) ?_ 0 ⟨Nat.zero_le _, by rw [List.take_zero]; exact hP⟩
    rintro i ⟨h1, h2⟩ ih
    refine .seq ?_
    refine .seq ?_
    refine .region ?_
    refine mvd ?_
    refine mvd ?_
    refine ln ?_ (LL_sz _) l2
    refine bi ?_
    refine rn ?_
    by_cases hi : i < ls.length
    · rw [decide_eq_true (show (i:Int) < ((LL ls).length : Nat) by rw [LL_length]; omega)]
      have hy : ls[i]? = some ls[i] := List.getElem?_eq_getElem hi
      have htk : ls.take (i + 1) = ls.take i ++ [ls[i]] := List.take_succ_eq_append_getElem hi
      generalize ls[i] = y at hy htk
      have hyo := h y (List.mem_of_getElem? hy)
      have hyl := hM y (List.mem_of_getElem? hy)
      have hyv := hv y (List.mem_of_getElem? hy)
      have hst : gcdF (ls.take (i + 1)) = Nat.gcd (gcdF (ls.take i)) (val y) := by rw [htk, gcdF_snoc]
      generalize gcdF (ls.take i) = g at *
      have fg := ref_gcd_fn (M := M) (a := digs g) (b := y) (digs_ok g) hyo (digs_len h2) hyl hM2
      rw [val_digs, ← hst] at fg
      refine cndt ?_
      refine .skip ?_
      show AW _ _ _ _ _ _
      refine .seq ?_
      refine .block ?_
      refine .region ?_
      refine mvd ?_
      refine mvd ?_
      refine mvd ?_
      refine ix i ?_ rfl (LL_at hy) rfl s2
      refine ldp ?_ a2
      refine cl (xs := [.sl (L (digs g)), .sl (L y)]) ?_ fg Try.call110
      refine asd ?_
      refine .nil ?_
      show AW _ _ _ _ _ _
      refine .region ?_
      refine mvd ?_
      refine ad ((i + 1 : Nat) : Int) ?_ ?_
      · omega
      refine asd ?_
      refine rn ?_
      refine .gh (Gh.keep [0, 3, 4] rfl) ?_
      exact ih (i + 1) ⟨by omega, by rw [hst]; exact gcd_lt h2 hyv⟩ (by omega)
    · rw [decide_eq_false (show ¬ (i:Int) < ((LL ls).length : Nat) by rw [LL_length]; omega)]
      refine cndf ?_
      refine .gh (Gh.keep [3] rfl) ?_
      refine .exit ?_
      have e1 : ls.take i = ls := List.take_of_length_le (by omega)
      show _ = _
      rw [e1]; rfl
  rintro _ _ rfl
  refine .seq ?_
  refine .region ?_
  refine mvd ?_
  refine asd ?_
  refine rn ?_
  refine .ret ?_
  exact ⟨rfl, rfl⟩
end Go.FL
/-
  Types of the layer rat: numbers as structs.
-/
namespace Go.FL
open Go Go.Proofs

/-- An api.Rat, a rat.number, a rat.size. -/
abbrev Rv (b : Bool) (n d : List Nat) : DV := .ag [.b b, .sl (L n), .sl (L d)]
abbrev Nv (b : Bool) (n d : List Nat) : DV := .ag [.sl (L n), .sl (L d), .b b]
theorem fR0 : fieldT Try.prog 25 0 = some (0, 1) := by kernel_rfl
theorem fR1 : fieldT Try.prog 25 1 = some (1, 1) := by kernel_rfl
theorem fR2 : fieldT Try.prog 25 2 = some (2, 1) := by kernel_rfl
theorem fN0 : fieldT Try.prog 58 0 = some (0, 2) := by kernel_rfl
theorem fN1 : fieldT Try.prog 58 1 = some (2, 1) := by kernel_rfl
theorem fZ0 : fieldT Try.prog 56 0 = some (0, 1) := by kernel_rfl
theorem fZ1 : fieldT Try.prog 56 1 = some (1, 1) := by kernel_rfl
theorem aR : aggT Try.prog 25 = some true := by kernel_rfl
theorem aN : aggT Try.prog 58 = some true := by kernel_rfl
theorem sR : szOf Try.prog 25 = 3 := by kernel_rfl
theorem sN : szOf Try.prog 58 = 3 := by kernel_rfl
theorem pR : structT Try.prog 25 = some [(0, 1), (1, 1), (2, 1)] := by kernel_rfl
theorem pN : structT Try.prog 58 = some [(0, 2), (2, 1)] := by kernel_rfl
theorem pZ : structT Try.prog 56 = some [(0, 1), (1, 1)] := by kernel_rfl
theorem iR : (Try.prog.info? 25).bind (·.zero) = some (.agg #[.bool false, .slice none 0 0, .slice none 0 0]) := by kernel_rfl
theorem iN : (Try.prog.info? 58).bind (·.zero) = some (.agg #[.slice none 0 0, .slice none 0 0, .bool false]) := by kernel_rfl
theorem iZ : (Try.prog.info? 56).bind (·.zero) = some (.agg #[.slice none 0 0, .slice none 0 0]) := by kernel_rfl
theorem zero_of {P : Program} {t : TypeId} {z : Value} (h : (P.info? t).bind (·.zero) = some z) (w : World) : (zeroValue t).run P w = .ok z w := by
  cases hi : P.info? t with
  | none => rw [hi] at h; cases h
  | some i =>
    rw [hi] at h
    simp only [Option.bind_some] at h
    simp [zeroValue, typeInfo, hi, h]
theorem rR (w : World) (I : Nat → Prop) : RepAll w I [.b false, .sl [], .sl []] (Value.agg #[.bool false, .slice none 0 0, .slice none 0 0]).cells.toList := .cons (.b _) (.cons (.sl0 _ _) (.cons (.sl0 _ _) .nil))
theorem rN (w : World) (I : Nat → Prop) : RepAll w I [.sl [], .sl [], .b false] (Value.agg #[.slice none 0 0, .slice none 0 0, .bool false]).cells.toList := .cons (.sl0 _ _) (.cons (.sl0 _ _) (.cons (.b _) .nil))
theorem rZ (w : World) (I : Nat → Prop) : RepAll w I [.sl [], .sl []] (Value.agg #[.slice none 0 0, .slice none 0 0]).cells.toList := .cons (.sl0 _ _) (.cons (.sl0 _ _) .nil)
theorem aB : aggT Try.prog 4 = some false := by kernel_rfl
theorem aS : aggT Try.prog 22 = some false := by kernel_rfl
end Go.FL
/-
  rat: one, of, cross, lowest, Make.
-/
namespace Go.FL
open Go Go.Proofs

theorem LL_flat (ls : List (List Nat)) : ∀ d ∈ LL ls, d.flat = true ∧ d.cells.length = 1 := by
  intro d hd
  simp only [LL, List.mem_map] at hd
  obtain ⟨n, _, rfl⟩ := hd
  exact ⟨rfl, rfl⟩
theorem noBpL_d : ∀ vs : List DV, noBpL (vs.map .d) = true
  | [] => rfl
  | v :: vs => by simp only [List.map_cons, noBpL, noBp, noBpL_d vs, Bool.and_self]
theorem noBp_d (vs : List DV) : noBp (.tup (vs.map .d)) = true := by simp only [noBp, noBpL_d vs]
theorem L_flat (l : List Nat) : ∀ d ∈ L l, d.flat = true ∧ d.cells.length = 1 := by
  intro d hd
  simp only [L, List.mem_map] at hd
  obtain ⟨n, _, rfl⟩ := hd
  exact ⟨rfl, rfl⟩

theorem one_fn : Fn Try.prog 66 [] (.own 65 (L [1])) := by
  refine Fn.of (rs := [.tmp 0]) (nt := 2) Try.func66 rfl rfl rfl (by simp) rfl ?_
  refine .seq ?_
  refine .region ?_
  refine asn ?_
  refine rn ?_
  refine .seq ?_
  refine .region ?_
  refine bsl ?_ ?_ e32
  · simp [DV.flat, DV.cells, DV.leaf]
  refine aso ?_
  refine rn ?_
  refine .ret ?_
  exact ⟨rfl, rfl⟩

theorem of_fn (b : Bool) (n d : List Nat) : Fn Try.prog 90 [Rv b n d] (.d (Nv b n d)) := by
  refine Fn.ofC (rs := [.cell 2 58]) (nt := 11) Try.func90 rfl rfl rfl (by simp) rfl ?_
  refine .seq ?_
  refine .region ?_
  refine vk vbx ?_
  refine vk (van (zero_of iN) rN) ?_
  refine rn ?_
  refine .seq ?_
  refine .region ?_
  refine vk (vfa fR1) ?_
  refine ldp ?_ aS
  refine vk (vfa fR2) ?_
  refine ldp ?_ aS
  refine vk (vbd pZ iZ rZ) ?_
  refine vk (vfa fR0) ?_
  refine ldp ?_ aB
  refine vk (vbd pN iN rN) ?_
  refine stn ?_ sN (by decide)
  refine rn ?_
  refine .ret ?_
  exact ⟨_, ⟨.inr rfl, aN, sN, (by decide : (0 : Nat) < 3)⟩, rfl⟩

/-- In lowest terms, or an error: what (number).lowest gives. -/
def lowN (b : Bool) (n d : Nat) : List DV :=
  if Nat.gcd n d = 0 then [Rv false [] [], .i .i64 22]
  else if 32 < (digs (n / Nat.gcd n d)).length ∨ 32 < (digs (d / Nat.gcd n d)).length then [Rv false [] [], .i .i64 8]
  else [Rv (b && decide (n / Nat.gcd n d ≠ 0)) (digs (n / Nat.gcd n d)) (digs (d / Nat.gcd n d)), .i .i64 0]
theorem pos_digs {n : Nat} : decide ((0 : Int) < ((L (digs n)).length : Nat)) = decide (n ≠ 0) := by
  by_cases h : n = 0
  · subst h; rw [digs_zero]; rfl
  · have := digs_ne (m := n) (by omega)
    rw [decide_eq_true h, decide_eq_true (by rw [L_length]; omega)]

theorem lowest_fn {M : Nat} {b : Bool} {n d : List Nat} (hn : Ok n) (hd : Ok d) (hln : n.length ≤ M) (hld : d.length ≤ M) (hM : M ≤ 100000) : Fn Try.prog 60 [Nv b n d] (.tup ((lowN b (val n) (val d)).map .d)) := by
  have g1 := Gcd_fn (M := M) (ls := [n, d]) (by simp [hn, hd]) (by simp [hln, hld]) (by simp) (by omega)
  rw [show gcdF [n, d] = Nat.gcd (val n) (val d) by show Nat.gcd (Nat.gcd 0 (val n)) (val d) = _; rw [Nat.gcd_zero_left]] at g1
  have lg : (digs (Nat.gcd (val n) (val d))).length ≤ M := digs_len (gcd_lt (Nat.lt_of_lt_of_le (val_lt hn) (Nat.pow_le_pow_right (by decide) hln)) (Nat.lt_of_lt_of_le (val_lt hd) (Nat.pow_le_pow_right (by decide) hld)))
  unfold lowN
  generalize Nat.gcd (val n) (val d) = g at *
  have d1 := DivMod_fn (a := n) (b := digs g) hn (digs_ok g) (by omega) (by omega)
  have d2 := DivMod_fn (a := d) (b := digs g) hd (digs_ok g) (by omega) (by omega)
  rw [val_digs] at d1 d2
  generalize remN (val n) g = r1 at *
  generalize remN (val d) g = r2 at *
  generalize val n / g = x at *
  generalize val d / g = y at *
  refine Fn.ofC (rs := [.cell 2 25, .tmp 3]) (nt := 61) Try.func60 rfl rfl rfl (by simp) (noBp_d _) ?_
  refine .seq ?_
  refine .region ?_
  refine vk vbx ?_
  refine vk (van (zero_of iR) rR) ?_
  refine asd ?_
  refine rn ?_
  refine .seq ?_
  refine .region ?_
  refine vk (vfa fN0) ?_
  refine vk (vfa fZ0) ?_
  refine ldp ?_ aS
  refine vk (vfa fN0) ?_
  refine vk (vfa fZ1) ?_
  refine ldp ?_ aS
  refine bsl ?_ ?_ e2
  · simp [DV.flat, DV.cells, DV.leaf]
  refine fz (p := .t 17) ?_
  refine cl (xs := [.sl (LL [n, d])]) ?_ g1 Try.call65
  refine asd ?_
  refine rn ?_
  refine .gh (Gh.keep [1, 2, 3, 4] rfl) ?_
  refine .seq ?_
  refine .region ?_
  refine vk (vfa fN0) ?_
  refine vk (vfa fZ0) ?_
  refine ldp ?_ aS
  refine mvd ?_
  refine cl (xs := [.sl (L n), .sl (L (digs g))]) ?_ d1 Try.call104
  refine mvt ?_
  refine ex ?_
  refine ex ?_
  refine ex ?_
  refine asd ?_
  refine asd ?_
  refine asd ?_
  refine rn ?_
  refine .gh (Gh.keep [1, 2, 3, 4, 5, 7] rfl) ?_
  refine .seq ?_
  refine .region ?_
  refine vk (vfa fN0) ?_
  refine vk (vfa fZ1) ?_
  refine ldp ?_ aS
  refine mvd ?_
  refine cl (xs := [.sl (L d), .sl (L (digs g))]) ?_ d2 Try.call104
  refine mvt ?_
  refine ex ?_
  refine ex ?_
  refine ex ?_
  refine asd ?_
  refine asd ?_
  refine asd ?_
  refine rn ?_
  refine .gh (Gh.keep [1, 2, 3, 5, 7, 8] rfl) ?_
  refine .seq ?_
  refine .block ?_
  refine .seq ?_
  refine .region ?_
  refine mvd ?_
  refine nt_ ?_
  refine asd ?_
  refine rn ?_
  by_cases hg : g = 0
  · rw [decide_eq_false (show ¬ (g ≠ 0) from fun h => h hg), if_pos hg]
    refine cndt ?_
    refine .seq ?_
    refine .region ?_
    refine vk (vbd pR iR rR) ?_
    refine stn ?_ sR (by decide)
    refine asd ?_
    refine rn ?_
    refine .ret ?_
    exact ⟨_, _, ⟨.inr rfl, aR, sR, (by decide : (0 : Nat) < 3)⟩, rfl, rfl⟩
  rw [decide_eq_true (show g ≠ 0 from hg), if_neg hg]
  refine cndf ?_
  refine .seq ?_
  refine .region ?_
  refine mvd ?_
  refine ln ?_ (L_sz _) l32
  refine bi ?_
  by_cases hx : 32 < (digs x).length
  · rw [decide_eq_true (show (32 : Int) < ((L (digs x)).length : Nat) by rw [L_length]; omega), if_pos (.inl hx)]
    refine mvd ?_
    refine gf ?_
    refine gf ?_
    refine gf ?_
    refine pkd ?_
    refine asd ?_
    refine rn ?_
    refine cndt ?_
    refine .seq ?_
    refine .region ?_
    refine vk (vbd pR iR rR) ?_
    refine stn ?_ sR (by decide)
    refine asd ?_
    refine rn ?_
    refine .ret ?_
    exact ⟨_, _, ⟨.inr rfl, aR, sR, (by decide : (0 : Nat) < 3)⟩, rfl, rfl⟩
  rw [decide_eq_false (show ¬ (32 : Int) < ((L (digs x)).length : Nat) by rw [L_length]; omega)]
  refine mvd ?_
  refine mvd ?_
  refine ln ?_ (L_sz _) l32
  refine bi ?_
  by_cases hy : 32 < (digs y).length
  · rw [decide_eq_true (show (32 : Int) < ((L (digs y)).length : Nat) by rw [L_length]; omega), if_pos (.inr hy)]
    refine pkd ?_
    refine asd ?_
    refine rn ?_
    refine cndt ?_
    refine .seq ?_
    refine .region ?_
    refine vk (vbd pR iR rR) ?_
    refine stn ?_ sR (by decide)
    refine asd ?_
    refine rn ?_
    refine .ret ?_
    exact ⟨_, _, ⟨.inr rfl, aR, sR, (by decide : (0 : Nat) < 3)⟩, rfl, rfl⟩
  rw [decide_eq_false (show ¬ (32 : Int) < ((L (digs y)).length : Nat) by rw [L_length]; omega), if_neg (by omega)]
  refine pkd ?_
  refine asd ?_
  refine rn ?_
  refine cndf ?_
  refine .skip ?_
  show AW _ _ _ _ _ _
  refine .seq ?_
  refine .region ?_
  refine vk (vfa fN1) ?_
  refine ldp ?_ aB
  refine mvd ?_
  by_cases hb : b = true
  · subst hb
    refine mvd ?_
    refine ln ?_ (L_sz _) l32
    refine bi ?_
    rw [pos_digs]
    refine pkd ?_
    refine mvd ?_
    refine mvd ?_
    refine vk (vbd pR iR rR) ?_
    refine stn ?_ sR (by decide)
    refine asd ?_
    refine rn ?_
    refine .ret ?_
    exact ⟨_, _, ⟨.inr rfl, aR, sR, (by decide : (0 : Nat) < 3)⟩, rfl, rfl⟩
  rw [Bool.not_eq_true] at hb; subst hb
  refine gf ?_
  refine gf ?_
  refine gf ?_
  refine pkd ?_
  refine mvd ?_
  refine mvd ?_
  refine vk (vbd pR iR rR) ?_
  refine stn ?_ sR (by decide)
  refine asd ?_
  refine rn ?_
  refine .ret ?_
  exact ⟨_, _, ⟨.inr rfl, aR, sR, (by decide : (0 : Nat) < 3)⟩, rfl, rfl⟩
end Go.FL
/-
  rat, glyphref02: Right; slices.Equal, IndexFunc, ContainsFunc; right.
-/
namespace Go.FL
open Go Go.Proofs

theorem slR : sliceT Try.prog 50 = some (25, 3, 56) := by kernel_rfl
theorem lR : Try.prog.underlying 50 = some (.slice (Try.prog.elem 50)) := by kernel_rfl

theorem refOne_fn : Fn Try.prog 69 [] (.own 65 (L [1])) := by
  refine Fn.of (rs := [.tmp 0]) (nt := 2) Try.func69 rfl rfl rfl (by simp) rfl ?_
  refine .seq ?_
  refine .region ?_
  refine asn ?_
  refine rn ?_
  refine .seq ?_
  refine .region ?_
  refine bsl ?_ ?_ e32
  · simp [DV.flat, DV.cells, DV.leaf]
  refine aso ?_
  refine rn ?_
  refine .ret ?_
  exact ⟨rfl, rfl⟩

theorem Equal_fn (a b : List Nat) (hla : a.length ≤ 1048576) (hoa : Ok a) (hob : Ok b) : Fn Try.prog 64 [.sl (L a), .sl (L b)] (.d (.b (decide (a = b)))) := by
  refine Fn.of (rs := [.tmp 4]) (nt := 26) Try.func64 rfl rfl rfl (by simp) rfl ?_
  refine .seq ?_
  refine .region ?_
  refine asd ?_
  refine rn ?_
  refine .seq ?_
  refine .seq ?_
  refine .region ?_
  refine mvd ?_
  refine ln ?_ (L_sz _) l32
  refine mvd ?_
  refine ln ?_ (L_sz _) l32
  refine bi ?_
  refine rn ?_
  by_cases hlen : a.length ≠ b.length
  · rw [decide_eq_false (show ¬ (((L a).length : Nat) : Int) = ((L b).length : Nat) by rw [L_length, L_length]; omega)]
    refine cndt ?_
    refine .seq ?_
    refine .region ?_
    refine asd ?_
    refine rn ?_
    refine .ret ?_
    exact ⟨by rw [decide_eq_false (fun h => hlen (by rw [h]))]; rfl, rfl⟩
  rw [decide_eq_true (show (((L a).length : Nat) : Int) = ((L b).length : Nat) by rw [L_length, L_length]; omega)]
  refine cndf ?_
  refine .skip ?_
  show AW _ _ _ _ _ _
  refine .seq ?_
  refine .seq ?_
  refine .region ?_
  refine mvd ?_
  refine ln ?_ (L_sz _) l32
  refine mvd ?_
  refine rn ?_
  refine .block ?_
  refine .loop (.gh (Gh.keep [0, 1, 11, 12, 13] rfl) ?_)
  refine AL.ind (σ := Nat) (m := fun i => a.length - i) (e := fun i => [(0, .d (.sl (L a))), (1, .d (.sl (L b))), (11, .d (.sl (L a))), (12, .d (.i .i64 ((L a).length : Nat))), (13, .d (.i .i64 (i : Int)))]) (h := fun _ => [])
    (I := fun i => i ≤ a.length ∧ a.take i = b.take i) ?_ 0 ⟨Nat.zero_le _, rfl⟩
  rintro i ⟨h1, h2⟩ ih
  refine .seq ?_
  refine .region ?_
  refine bi ?_
  refine rn ?_
  refine .seq ?_
  by_cases hi : i < a.length
  · rw [decide_eq_true (show (i : Int) < ((L a).length : Nat) by rw [L_length]; omega)]
    have hx : a[i]? = some a[i] := List.getElem?_eq_getElem hi
    have hy : b[i]? = some b[i] := List.getElem?_eq_getElem (by omega)
    have hdx : a.take (i + 1) = a.take i ++ [a[i]] := List.take_succ_eq_append_getElem hi
    have hdy : b.take (i + 1) = b.take i ++ [b[i]] := List.take_succ_eq_append_getElem (by omega)
    generalize a[i] = x at hx hdx
    generalize b[i] = y at hy hdy
    refine cndt ?_
    refine .skip ?_
    show AW _ _ _ _ _ _
    refine .seq ?_
    refine .block ?_
    refine .seq ?_
    refine .region ?_
    refine mvd ?_
    refine asd ?_
    refine rn ?_
    refine .seq ?_
    refine .drawn 9 mixed (by kernel_rfl) ?_
    refine dv vmvd ?_
    refine dv vmvd ?_
    refine dv (vix i rfl (L_at hx) rfl s32) ?_
    refine dv (vldp a32) ?_
    refine dv vmvd ?_
    refine dv vmvd ?_
    refine dv (vix i rfl (L_at hy) rfl s32) ?_
    refine dv (vldp a32) ?_
    refine dv vbi ?_
    refine dz ?_
    refine rn ?_
    by_cases hxy : x ≠ y
    · rw [decide_eq_false (show ¬ (x : Int) = (y : Int) by omega)]
      refine cndt ?_
      refine .seq ?_
      refine .region ?_
      refine asd ?_
      refine rn ?_
      refine .ret ?_
      exact ⟨by rw [decide_eq_false (fun h => hxy (by rw [h] at hx; rw [hx] at hy; exact Option.some.inj hy))]; rfl, rfl⟩
    rw [decide_eq_true (show (x : Int) = (y : Int) by omega)]
    refine cndf ?_
    refine .skip ?_
    show AW _ _ _ _ _ _
    refine .region ?_
    refine ad ((i + 1 : Nat) : Int) ?_ ?_
    · omega
    refine mvd ?_
    refine .nil ?_
    refine AL.gh (Gh.keep [0, 1, 11, 12, 13] rfl) ?_
    exact ih (i + 1) ⟨by omega, by rw [hdx, hdy, h2]; congr 2; omega⟩ (by omega)
  rw [decide_eq_false (show ¬ (i : Int) < ((L a).length : Nat) by rw [L_length]; omega)]
  refine cndf ?_
  refine .exit ?_
  show AW _ _ _ _ _ _
  refine .seq ?_
  refine .region ?_
  refine asd ?_
  refine rn ?_
  refine .ret ?_
  rw [List.take_of_length_le (by omega), List.take_of_length_le (by omega)] at h2
  exact ⟨by rw [decide_eq_true h2]; rfl, rfl⟩

/-- A number in lowest terms, and not too great. -/
def RightP (b : Bool) (n d : List Nat) : Prop := digs (val n) = n ∧ digs (val d) = d ∧ n.length ≤ 32 ∧ d.length ≤ 32 ∧ d ≠ [] ∧ (n = [] → b = false) ∧ Nat.gcd (val n) (val d) = 1
instance (b : Bool) (n d : List Nat) : Decidable (RightP b n d) := by unfold RightP; infer_instance
def rightL (b : Bool) (n d : List Nat) : Bool := decide (RightP b n d)
theorem right_f {b : Bool} {n d : List Nat} (h : ¬ RightP b n d) : rightL b n d = false := decide_eq_false h
theorem digs_one_iff {g : Nat} : digs g = [1] ↔ g = 1 := by
  have one : digs 1 = [1] := one_limb (n := 1) (by decide) (by decide)
  constructor
  · intro h
    have := val_digs g
    rw [h] at this
    simpa [val] using this.symm
  · rintro rfl; exact one
theorem ne_nil_pos {l : List Nat} : l ≠ [] ↔ 0 < l.length := by
  cases l <;> simp

theorem RRight_fn {b : Bool} {n d : List Nat} (hn : Ok n) (hd : Ok d) (hln : n.length ≤ 35184372087808) (hld : d.length ≤ 35184372087808) : Fn Try.prog 19 [Rv b n d] (.d (.b (rightL b n d))) := by
  refine Fn.of (rs := [.tmp 2]) (nt := 50) Try.func19 rfl rfl rfl (by simp) rfl ?_
  refine .seq ?_
  refine .region ?_
  refine vk vbx ?_
  refine asd ?_
  refine rn ?_
  refine .seq ?_
  refine .seq ?_
  refine .region ?_
  refine vk (vfa fR1) ?_
  refine ldp ?_ aS
  refine cl (xs := [.sl (L n)]) ?_ (Right_fn hn hln) Try.call37
  refine nt_ ?_
  by_cases h1 : ¬ digs (val n) = n
  · rw [decide_eq_false h1]
    refine mvd ?_
    refine gf ?_
    refine gf ?_
    refine gf ?_
    refine gf ?_
    refine pkd ?_
    refine mvd ?_
    refine gf ?_
    refine gf ?_
    refine gf ?_
    refine gf ?_
    refine pkd ?_
    refine mvd ?_
    refine gf ?_
    refine gf ?_
    refine gf ?_
    refine gf ?_
    refine pkd ?_
    refine rn ?_
    refine .gh (Gh.keep [1, 24] rfl) ?_
    refine cndt ?_
    refine .seq ?_
    refine .region ?_
    refine asd ?_
    refine rn ?_
    refine .ret ?_
    exact ⟨by rw [right_f (fun h => h1 h.1)]; rfl, rfl⟩
  rw [Decidable.not_not] at h1
  rw [decide_eq_true h1]
  refine mvd ?_
  refine vk (vfa fR2) ?_
  refine ldp ?_ aS
  refine cl (xs := [.sl (L d)]) ?_ (Right_fn hd hld) Try.call37
  refine nt_ ?_
  by_cases h2 : ¬ digs (val d) = d
  · rw [decide_eq_false h2]
    refine pkd ?_
    refine mvd ?_
    refine gf ?_
    refine gf ?_
    refine gf ?_
    refine gf ?_
    refine pkd ?_
    refine mvd ?_
    refine gf ?_
    refine gf ?_
    refine gf ?_
    refine gf ?_
    refine pkd ?_
    refine rn ?_
    refine .gh (Gh.keep [1, 24] rfl) ?_
    refine cndt ?_
    refine .seq ?_
    refine .region ?_
    refine asd ?_
    refine rn ?_
    refine .ret ?_
    exact ⟨by rw [right_f (fun h => h2 h.2.1)]; rfl, rfl⟩
  rw [Decidable.not_not] at h2
  rw [decide_eq_true h2]
  refine pkd ?_
  refine mvd ?_
  refine vk (vfa fR1) ?_
  refine ldp ?_ aS
  refine ln ?_ (L_sz _) l32
  refine bi ?_
  by_cases h3 : 32 < n.length
  · rw [decide_eq_true (show (32 : Int) < ((L n).length : Nat) by rw [L_length]; omega)]
    refine pkd ?_
    refine mvd ?_
    refine gf ?_
    refine gf ?_
    refine gf ?_
    refine gf ?_
    refine pkd ?_
    refine rn ?_
    refine .gh (Gh.keep [1, 24] rfl) ?_
    refine cndt ?_
    refine .seq ?_
    refine .region ?_
    refine asd ?_
    refine rn ?_
    refine .ret ?_
    exact ⟨by rw [right_f (fun h => by have := h.2.2.1; omega)]; rfl, rfl⟩
  rw [decide_eq_false (show ¬ (32 : Int) < ((L n).length : Nat) by rw [L_length]; omega)]
  refine pkd ?_
  refine mvd ?_
  refine vk (vfa fR2) ?_
  refine ldp ?_ aS
  refine ln ?_ (L_sz _) l32
  refine bi ?_
  by_cases h4 : 32 < d.length
  · rw [decide_eq_true (show (32 : Int) < ((L d).length : Nat) by rw [L_length]; omega)]
    refine pkd ?_
    refine rn ?_
    refine .gh (Gh.keep [1, 24] rfl) ?_
    refine cndt ?_
    refine .seq ?_
    refine .region ?_
    refine asd ?_
    refine rn ?_
    refine .ret ?_
    exact ⟨by rw [right_f (fun h => by have := h.2.2.2.1; omega)]; rfl, rfl⟩
  rw [decide_eq_false (show ¬ (32 : Int) < ((L d).length : Nat) by rw [L_length]; omega)]
  have g1 := Gcd_fn (M := 32) (ls := [n, d]) (by simp [hn, hd]) (by simp; omega) (by simp) (by decide)
  rw [show gcdF [n, d] = Nat.gcd (val n) (val d) by show Nat.gcd (Nat.gcd 0 (val n)) (val d) = _; rw [Nat.gcd_zero_left]] at g1
  have lg : (digs (Nat.gcd (val n) (val d))).length ≤ 32 := digs_len (gcd_lt (Nat.lt_of_lt_of_le (val_lt hn) (Nat.pow_le_pow_right (by decide) (by omega))) (Nat.lt_of_lt_of_le (val_lt hd) (Nat.pow_le_pow_right (by decide) (by omega))))
  have q1 := Equal_fn (digs (Nat.gcd (val n) (val d))) [1] (by omega) (digs_ok _) (by simp [Ok])
  rw [decide_eq_decide.2 digs_one_iff] at q1
  refine pkd ?_
  refine rn ?_
  refine .gh (Gh.keep [1, 24] rfl) ?_
  refine cndf ?_
  refine .skip ?_
  show AW _ _ _ _ _ _
  refine .seq ?_
  refine .region ?_
  refine vk (vfa fR2) ?_
  refine ldp ?_ aS
  refine ln ?_ (L_sz _) l32
  refine bi ?_
  by_cases h5 : 0 < d.length
  · rw [decide_eq_true (show (0 : Int) < ((L d).length : Nat) by rw [L_length]; omega)]
    refine mvd ?_
    refine vk (vfa fR1) ?_
    refine ldp ?_ aS
    refine ln ?_ (L_sz _) l32
    refine bi ?_
    by_cases h6 : 0 < n.length
    · rw [decide_eq_true (show (0 : Int) < ((L n).length : Nat) by rw [L_length]; omega)]
      refine mvd ?_
      refine gf ?_
      refine gf ?_
      refine gf ?_
      refine pkd ?_
      refine pkd ?_
      refine mvd ?_
      refine vk (vfa fR1) ?_
      refine ldp ?_ aS
      refine vk (vfa fR2) ?_
      refine ldp ?_ aS
      refine bsl ?_ ?_ e2
      · simp [DV.flat, DV.cells, DV.leaf]
      refine fz (p := .t 45) ?_
      refine cl (xs := [.sl (LL [n, d])]) ?_ g1 Try.call65
      refine cl (xs := []) ?_ one_fn Try.call66
      refine fz (p := .t 47) ?_
      refine cl (xs := [.sl (L (digs (Nat.gcd (val n) (val d)))), .sl (L [1])]) ?_ q1 Try.call64
      refine pkd ?_
      refine asd ?_
      refine rn ?_
      refine .ret ?_
      exact ⟨by rw [show rightL b n d = decide (Nat.gcd (val n) (val d) = 1) from decide_eq_decide.2 ⟨fun h => h.2.2.2.2.2.2, fun h => ⟨h1, h2, by omega, by omega, ne_nil_pos.2 h5, fun h0 => by rw [h0] at h6; simp at h6, h⟩⟩]; rfl, rfl⟩
    rw [decide_eq_false (show ¬ (0 : Int) < ((L n).length : Nat) by rw [L_length]; omega)]
    refine mvd ?_
    refine vk (vfa fR0) ?_
    refine ldp ?_ aB
    refine nt_ ?_
    by_cases h7 : b = false
    · subst h7
      refine pkd ?_
      refine pkd ?_
      refine mvd ?_
      refine vk (vfa fR1) ?_
      refine ldp ?_ aS
      refine vk (vfa fR2) ?_
      refine ldp ?_ aS
      refine bsl ?_ ?_ e2
      · simp [DV.flat, DV.cells, DV.leaf]
      refine fz (p := .t 45) ?_
      refine cl (xs := [.sl (LL [n, d])]) ?_ g1 Try.call65
      refine cl (xs := []) ?_ one_fn Try.call66
      refine fz (p := .t 47) ?_
      refine cl (xs := [.sl (L (digs (Nat.gcd (val n) (val d)))), .sl (L [1])]) ?_ q1 Try.call64
      refine pkd ?_
      refine asd ?_
      refine rn ?_
      refine .ret ?_
      exact ⟨by rw [show rightL false n d = decide (Nat.gcd (val n) (val d) = 1) from decide_eq_decide.2 ⟨fun h => h.2.2.2.2.2.2, fun h => ⟨h1, h2, by omega, by omega, ne_nil_pos.2 h5, fun _ => rfl, h⟩⟩]; rfl, rfl⟩
    rw [Bool.not_eq_false] at h7; subst h7
    refine pkd ?_
    refine pkd ?_
    refine mvd ?_
    refine gf ?_
    refine gf ?_
    refine gf ?_
    refine gf ?_
    refine gf ?_
    refine gf ?_
    refine gf ?_
    refine gf ?_
    refine pkd ?_
    refine asd ?_
    refine rn ?_
    refine .ret ?_
    exact ⟨by rw [right_f (fun h => by have := h.2.2.2.2.2.1 (List.length_eq_zero_iff.1 (by omega)); cases this)]; rfl, rfl⟩
  rw [decide_eq_false (show ¬ (0 : Int) < ((L d).length : Nat) by rw [L_length]; omega)]
  refine mvd ?_
  refine gf ?_
  refine gf ?_
  refine gf ?_
  refine gf ?_
  refine gfu ?_
  refine gfn ?_
  refine gfn ?_
  refine gfn ?_
  refine gf ?_
  refine pkd ?_
  refine mvd ?_
  refine gf ?_
  refine gf ?_
  refine gf ?_
  refine gf ?_
  refine gf ?_
  refine gf ?_
  refine gf ?_
  refine gf ?_
  refine pkd ?_
  refine asd ?_
  refine rn ?_
  refine .ret ?_
  exact ⟨by rw [right_f (fun h => h5 (ne_nil_pos.1 h.2.2.2.2.1))]; rfl, rfl⟩

theorem cmp_one {g : Nat} : (cmpN g 1 = 0) ↔ g = 1 := by
  unfold cmpN
  by_cases h : g < 1
  · rw [if_pos h]; omega
  · rw [if_neg h]; split <;> omega

theorem refRR_fn {b : Bool} {n d : List Nat} (hn : Ok n) (hd : Ok d) (hln : n.length ≤ 35184372087808) (hld : d.length ≤ 35184372087808) : Fn Try.prog 20 [Rv b n d] (.d (.b (rightL b n d))) := by
  refine Fn.of (rs := [.tmp 2]) (nt := 50) Try.func20 rfl rfl rfl (by simp) rfl ?_
  refine .seq ?_
  refine .region ?_
  refine vk vbx ?_
  refine asd ?_
  refine rn ?_
  refine .seq ?_
  refine .seq ?_
  refine .region ?_
  refine vk (vfa fR1) ?_
  refine ldp ?_ aS
  refine cl (xs := [.sl (L n)]) ?_ (refRight_fn hn hln) Try.call67
  refine nt_ ?_
  by_cases h1 : ¬ digs (val n) = n
  · rw [decide_eq_false h1]
    refine mvd ?_
    refine gf ?_
    refine gf ?_
    refine gf ?_
    refine gf ?_
    refine pkd ?_
    refine mvd ?_
    refine gf ?_
    refine gf ?_
    refine gf ?_
    refine gf ?_
    refine pkd ?_
    refine mvd ?_
    refine gf ?_
    refine gf ?_
    refine gf ?_
    refine gf ?_
    refine pkd ?_
    refine mvd ?_
    refine gf ?_
    refine gf ?_
    refine gf ?_
    refine gf ?_
    refine pkd ?_
    refine mvd ?_
    refine gf ?_
    refine gf ?_
    refine gf ?_
    refine gf ?_
    refine gfu ?_
    refine gfn ?_
    refine gfn ?_
    refine gf ?_
    refine pkd ?_
    refine rn ?_
    refine .gh (Gh.keep [1, 40] rfl) ?_
    refine cndt ?_
    refine .seq ?_
    refine .region ?_
    refine asd ?_
    refine rn ?_
    refine .ret ?_
    exact ⟨by rw [right_f (fun h => h1 h.1)]; rfl, rfl⟩
  rw [Decidable.not_not] at h1
  rw [decide_eq_true h1]
  refine mvd ?_
  refine vk (vfa fR2) ?_
  refine ldp ?_ aS
  refine cl (xs := [.sl (L d)]) ?_ (refRight_fn hd hld) Try.call67
  refine nt_ ?_
  by_cases h2 : ¬ digs (val d) = d
  · rw [decide_eq_false h2]
    refine pkd ?_
    refine mvd ?_
    refine gf ?_
    refine gf ?_
    refine gf ?_
    refine gf ?_
    refine pkd ?_
    refine mvd ?_
    refine gf ?_
    refine gf ?_
    refine gf ?_
    refine gf ?_
    refine pkd ?_
    refine mvd ?_
    refine gf ?_
    refine gf ?_
    refine gf ?_
    refine gf ?_
    refine pkd ?_
    refine mvd ?_
    refine gf ?_
    refine gf ?_
    refine gf ?_
    refine gf ?_
    refine gfu ?_
    refine gfn ?_
    refine gfn ?_
    refine gf ?_
    refine pkd ?_
    refine rn ?_
    refine .gh (Gh.keep [1, 40] rfl) ?_
    refine cndt ?_
    refine .seq ?_
    refine .region ?_
    refine asd ?_
    refine rn ?_
    refine .ret ?_
    exact ⟨by rw [right_f (fun h => h2 h.2.1)]; rfl, rfl⟩
  rw [Decidable.not_not] at h2
  rw [decide_eq_true h2]
  refine pkd ?_
  refine mvd ?_
  refine vk (vfa fR2) ?_
  refine ldp ?_ aS
  refine ln ?_ (L_sz _) l32
  refine bi ?_
  by_cases h5 : d.length = 0
  · rw [decide_eq_true (show (((L d).length : Nat) : Int) = 0 by rw [L_length]; omega)]
    refine pkd ?_
    refine mvd ?_
    refine gf ?_
    refine gf ?_
    refine gf ?_
    refine gf ?_
    refine pkd ?_
    refine mvd ?_
    refine gf ?_
    refine gf ?_
    refine gf ?_
    refine gf ?_
    refine pkd ?_
    refine mvd ?_
    refine gf ?_
    refine gf ?_
    refine gf ?_
    refine gf ?_
    refine gfu ?_
    refine gfn ?_
    refine gfn ?_
    refine gf ?_
    refine pkd ?_
    refine rn ?_
    refine .gh (Gh.keep [1, 40] rfl) ?_
    refine cndt ?_
    refine .seq ?_
    refine .region ?_
    refine asd ?_
    refine rn ?_
    refine .ret ?_
    exact ⟨by rw [right_f (fun h => by have := ne_nil_pos.1 h.2.2.2.2.1; omega)]; rfl, rfl⟩
  rw [decide_eq_false (show ¬ (((L d).length : Nat) : Int) = 0 by rw [L_length]; omega)]
  refine pkd ?_
  refine mvd ?_
  refine vk (vfa fR1) ?_
  refine ldp ?_ aS
  refine ln ?_ (L_sz _) l32
  refine bi ?_
  by_cases h3 : 32 < n.length
  · rw [decide_eq_true (show (32 : Int) < ((L n).length : Nat) by rw [L_length]; omega)]
    refine pkd ?_
    refine mvd ?_
    refine gf ?_
    refine gf ?_
    refine gf ?_
    refine gf ?_
    refine pkd ?_
    refine mvd ?_
    refine gf ?_
    refine gf ?_
    refine gf ?_
    refine gf ?_
    refine gfu ?_
    refine gfn ?_
    refine gfn ?_
    refine gf ?_
    refine pkd ?_
    refine rn ?_
    refine .gh (Gh.keep [1, 40] rfl) ?_
    refine cndt ?_
    refine .seq ?_
    refine .region ?_
    refine asd ?_
    refine rn ?_
    refine .ret ?_
    exact ⟨by rw [right_f (fun h => by have := h.2.2.1; omega)]; rfl, rfl⟩
  rw [decide_eq_false (show ¬ (32 : Int) < ((L n).length : Nat) by rw [L_length]; omega)]
  refine pkd ?_
  refine mvd ?_
  refine vk (vfa fR2) ?_
  refine ldp ?_ aS
  refine ln ?_ (L_sz _) l32
  refine bi ?_
  by_cases h4 : 32 < d.length
  · rw [decide_eq_true (show (32 : Int) < ((L d).length : Nat) by rw [L_length]; omega)]
    refine pkd ?_
    refine mvd ?_
    refine gf ?_
    refine gf ?_
    refine gf ?_
    refine gf ?_
    refine gfu ?_
    refine gfn ?_
    refine gfn ?_
    refine gf ?_
    refine pkd ?_
    refine rn ?_
    refine .gh (Gh.keep [1, 40] rfl) ?_
    refine cndt ?_
    refine .seq ?_
    refine .region ?_
    refine asd ?_
    refine rn ?_
    refine .ret ?_
    exact ⟨by rw [right_f (fun h => by have := h.2.2.2.1; omega)]; rfl, rfl⟩
  rw [decide_eq_false (show ¬ (32 : Int) < ((L d).length : Nat) by rw [L_length]; omega)]
  have g1 := refGcd_fn (M := 32) (ls := [n, d]) (by simp [hn, hd]) (by simp; omega) (by simp) (by decide)
  rw [show gcdF [n, d] = Nat.gcd (val n) (val d) by show Nat.gcd (Nat.gcd 0 (val n)) (val d) = _; rw [Nat.gcd_zero_left]] at g1
  have lg : (digs (Nat.gcd (val n) (val d))).length ≤ 32 := digs_len (gcd_lt (Nat.lt_of_lt_of_le (val_lt hn) (Nat.pow_le_pow_right (by decide) (by omega))) (Nat.lt_of_lt_of_le (val_lt hd) (Nat.pow_le_pow_right (by decide) (by omega))))
  have q1 := refCompare_fn (a := digs (Nat.gcd (val n) (val d))) (b := [1]) (digs_ok _) (by simp [Ok]) (by omega) (by simp)
  rw [val_digs, show val [1] = 1 from rfl] at q1
  refine pkd ?_
  refine mvd ?_
  refine vk (vfa fR1) ?_
  refine ldp ?_ aS
  refine ln ?_ (L_sz _) l32
  refine bi ?_
  by_cases h6 : n.length = 0
  · rw [decide_eq_true (show (((L n).length : Nat) : Int) = 0 by rw [L_length]; omega)]
    refine mvd ?_
    refine vk (vfa fR0) ?_
    refine ldp ?_ aB
    by_cases h7 : b = true
    · subst h7
      refine pkd ?_
      refine pkd ?_
      refine rn ?_
      refine .gh (Gh.keep [1, 40] rfl) ?_
      refine cndt ?_
      refine .seq ?_
      refine .region ?_
      refine asd ?_
      refine rn ?_
      refine .ret ?_
      exact ⟨by rw [right_f (fun h => by have := h.2.2.2.2.2.1 (List.length_eq_zero_iff.1 (by omega)); cases this)]; rfl, rfl⟩
    rw [Bool.not_eq_true] at h7; subst h7
    refine pkd ?_
    refine pkd ?_
    refine rn ?_
    refine .gh (Gh.keep [1, 40] rfl) ?_
    refine cndf ?_
    refine .skip ?_
    show AW _ _ _ _ _ _
    refine .seq ?_
    refine .region ?_
    refine vk (vfa fR1) ?_
    refine ldp ?_ aS
    refine vk (vfa fR2) ?_
    refine ldp ?_ aS
    refine bsl ?_ ?_ e2
    · simp [DV.flat, DV.cells, DV.leaf]
    refine fz (p := .t 45) ?_
    refine cl (xs := [.sl (LL [n, d])]) ?_ g1 Try.call62
    refine cl (xs := []) ?_ refOne_fn Try.call69
    refine fz (p := .t 47) ?_
    refine cl (xs := [.sl (L (digs (Nat.gcd (val n) (val d)))), .sl (L [1])]) ?_ q1 Try.call68
    refine bi ?_
    refine asd ?_
    refine rn ?_
    refine .ret ?_
    exact ⟨by rw [show rightL false n d = decide (cmpN (Nat.gcd (val n) (val d)) 1 = 0) from decide_eq_decide.2 ⟨fun h => cmp_one.2 h.2.2.2.2.2.2, fun h => ⟨h1, h2, by omega, by omega, ne_nil_pos.2 (by omega), fun _ => rfl, cmp_one.1 h⟩⟩]; rfl, rfl⟩
  rw [decide_eq_false (show ¬ (((L n).length : Nat) : Int) = 0 by rw [L_length]; omega)]
  refine mvd ?_
  refine gf ?_
  refine gf ?_
  refine pkd ?_
  refine pkd ?_
  refine rn ?_
  refine .gh (Gh.keep [1, 40] rfl) ?_
  refine cndf ?_
  refine .skip ?_
  show AW _ _ _ _ _ _
  refine .seq ?_
  refine .region ?_
  refine vk (vfa fR1) ?_
  refine ldp ?_ aS
  refine vk (vfa fR2) ?_
  refine ldp ?_ aS
  refine bsl ?_ ?_ e2
  · simp [DV.flat, DV.cells, DV.leaf]
  refine fz (p := .t 45) ?_
  refine cl (xs := [.sl (LL [n, d])]) ?_ g1 Try.call62
  refine cl (xs := []) ?_ refOne_fn Try.call69
  refine fz (p := .t 47) ?_
  refine cl (xs := [.sl (L (digs (Nat.gcd (val n) (val d)))), .sl (L [1])]) ?_ q1 Try.call68
  refine bi ?_
  refine asd ?_
  refine rn ?_
  refine .ret ?_
  exact ⟨by rw [show rightL b n d = decide (cmpN (Nat.gcd (val n) (val d)) 1 = 0) from decide_eq_decide.2 ⟨fun h => cmp_one.2 h.2.2.2.2.2.2, fun h => ⟨h1, h2, by omega, by omega, ne_nil_pos.2 (by omega), fun h0 => by rw [h0] at h6; simp at h6, cmp_one.1 h⟩⟩]; rfl, rfl⟩

/-- Numbers, as they come. -/
abbrev RT := Bool × List Nat × List Nat
def RVs (rs : List RT) : List DV := rs.map fun r => Rv r.1 r.2.1 r.2.2
def okR (r : RT) : Prop := Ok r.2.1 ∧ Ok r.2.2 ∧ r.2.1.length ≤ 35184372087808 ∧ r.2.2.length ≤ 35184372087808
def rightR (r : RT) : Bool := rightL r.1 r.2.1 r.2.2
def idxZ : Option Nat → Int
  | some i => i
  | none => -1
theorem RVs_length (rs : List RT) : (RVs rs).length = rs.length := by simp [RVs]
theorem RVs_sz (rs : List RT) : ∃ sz, ∀ x ∈ RVs rs, x.cells.length = sz := ⟨3, fun x hx => by
  simp only [RVs, List.mem_map] at hx
  obtain ⟨n, _, rfl⟩ := hx; rfl⟩
theorem RVs_at {rs : List RT} {i : Nat} {r : RT} (h : rs[i]? = some r) : (RVs rs)[i]? = some (Rv r.1 r.2.1 r.2.2) := by simp [RVs, h]

theorem notRight_fn {b : Bool} {n d : List Nat} (hn : Ok n) (hd : Ok d) (hln : n.length ≤ 35184372087808) (hld : d.length ≤ 35184372087808) : Fn Try.prog 123 [Rv b n d] (.d (.b (!rightL b n d))) := by
  refine Fn.of (rs := [.tmp 2]) (nt := 6) Try.func123 rfl rfl rfl (by simp) rfl ?_
  refine .seq ?_
  refine .region ?_
  refine vk vbx ?_
  refine asd ?_
  refine rn ?_
  refine .seq ?_
  refine .region ?_
  refine vk (vlda aR sR) ?_
  refine cl (xs := [Rv b n d]) ?_ (RRight_fn hn hd hln hld) Try.call19
  refine nt_ ?_
  refine asd ?_
  refine rn ?_
  refine .ret ?_
  exact ⟨rfl, rfl⟩

theorem IndexR_fn {rs : List RT} (h : ∀ r ∈ rs, okR r) (hl : rs.length ≤ 1048576) : Fn Try.prog 134 [.sl (RVs rs), .fn 123 [] []] (.d (.i .i64 (idxZ (rs.findIdx? (fun r => !rightR r))))) := by
  refine Fn.of (rs := [.tmp 4]) (nt := 19) Try.func134 rfl rfl rfl (by simp) rfl ?_
  refine .seq ?_
  refine .region ?_
  refine asd ?_
  refine rn ?_
  refine .seq ?_
  refine .seq ?_
  refine .region ?_
  refine mvd ?_
  refine ln ?_ (RVs_sz _) lR
  refine mvd ?_
  refine rn ?_
  refine .block ?_
  refine .loop (.gh (Gh.keep [0, 1, 6, 7, 8] rfl) ?_)
  refine AL.ind (σ := Nat) (m := fun i => rs.length - i) (e := fun i => [(0, .d (.sl (RVs rs))), (1, .d (.fn 123 [] [])), (6, .d (.sl (RVs rs))), (7, .d (.i .i64 ((RVs rs).length : Nat))), (8, .d (.i .i64 (i : Int)))]) (h := fun _ => [])
    (I := fun i => i ≤ rs.length ∧ ∀ j r, j < i → rs[j]? = some r → rightR r = true) ?_ 0 ⟨Nat.zero_le _, fun j r hj => by omega⟩
  rintro i ⟨h1, h2⟩ ih
  refine .seq ?_
  refine .region ?_
  refine bi ?_
  refine rn ?_
  refine .seq ?_
  by_cases hi : i < rs.length
  · rw [decide_eq_true (show (i : Int) < ((RVs rs).length : Nat) by rw [RVs_length]; omega)]
    have hx : rs[i]? = some rs[i] := List.getElem?_eq_getElem hi
    have hdx : rs.take (i + 1) = rs.take i ++ [rs[i]] := List.take_succ_eq_append_getElem hi
    generalize rs[i] = r at hx hdx
    obtain ⟨o1, o2, o3, o4⟩ := h r (List.mem_of_getElem? hx)
    refine cndt ?_
    refine .skip ?_
    show AW _ _ _ _ _ _
    refine .seq ?_
    refine .block ?_
    refine .seq ?_
    refine .region ?_
    refine mvd ?_
    refine asd ?_
    refine rn ?_
    refine .seq ?_
    refine .region ?_
    refine mvd ?_
    refine mvd ?_
    refine mvd ?_
    refine ix i ?_ rfl (RVs_at hx) rfl slR
    refine vk (vlda aR sR) ?_
    refine cl (xs := [Rv r.1 r.2.1 r.2.2]) ?_ (notRight_fn o1 o2 o3 o4) Try.call123
    refine rn ?_
    by_cases hr : rightL r.1 r.2.1 r.2.2 = false
    · rw [hr]
      refine cndt ?_
      refine .seq ?_
      refine .region ?_
      refine mvd ?_
      refine asd ?_
      refine rn ?_
      refine .ret ?_
      have hf : rs.findIdx? (fun r => !rightR r) = some i := by
        rw [List.findIdx?_eq_some_iff_getElem]
        obtain ⟨hi', he⟩ := List.getElem?_eq_some_iff.1 hx
        refine ⟨hi', by rw [he]; show (!rightL r.1 r.2.1 r.2.2) = true; rw [hr]; rfl, fun j hj => ?_⟩
        have := h2 j rs[j] hj (List.getElem?_eq_getElem (by omega))
        simp [this]
      exact ⟨by rw [hf]; rfl, rfl⟩
    rw [Bool.not_eq_false] at hr
    rw [hr]
    refine cndf ?_
    refine .skip ?_
    show AW _ _ _ _ _ _
    refine .region ?_
    refine ad ((i + 1 : Nat) : Int) ?_ ?_
    · omega
    refine mvd ?_
    refine .nil ?_
    refine AL.gh (Gh.keep [0, 1, 6, 7, 8] rfl) ?_
    exact ih (i + 1) ⟨by omega, fun j r' hj hr' => by
      by_cases hji : j = i
      · subst hji; rw [hx] at hr'; cases hr'; exact hr
      · exact h2 j r' (by omega) hr'⟩ (by omega)
  rw [decide_eq_false (show ¬ (i : Int) < ((RVs rs).length : Nat) by rw [RVs_length]; omega)]
  refine cndf ?_
  refine .exit ?_
  show AW _ _ _ _ _ _
  refine .seq ?_
  refine .region ?_
  refine asd ?_
  refine rn ?_
  refine .ret ?_
  have hf : rs.findIdx? (fun r => !rightR r) = none := by
    rw [List.findIdx?_eq_none_iff]
    intro r hr
    obtain ⟨j, hj⟩ := List.getElem?_of_mem hr
    have hjl := (List.getElem?_eq_some_iff.1 hj).1
    rw [h2 j r (by omega) hj]; rfl
  exact ⟨by rw [hf]; rfl, rfl⟩
end Go.FL
/-
  rat, glyphref02: right, Make; Same.
-/
namespace Go.FL
open Go Go.Proofs


theorem ContainsR_fn {rs : List RT} (h : ∀ r ∈ rs, okR r) (hl : rs.length ≤ 1048576) : Fn Try.prog 122 [.sl (RVs rs), .fn 123 [] []] (.d (.b (!rs.all rightR))) := by
  have f := IndexR_fn h hl
  have e : decide ((0 : Int) ≤ idxZ (rs.findIdx? (fun r => !rightR r))) = !rs.all rightR := by
    cases hf : rs.findIdx? (fun r => !rightR r) with
    | none =>
      rw [List.findIdx?_eq_none_iff] at hf
      have : rs.all rightR = true := List.all_eq_true.2 fun r hr => by have := hf r hr; simpa using this
      rw [this]; rfl
    | some i =>
      rw [List.findIdx?_eq_some_iff_getElem] at hf
      obtain ⟨hi, he, _⟩ := hf
      have : rs.all rightR = false := by
        rw [Bool.eq_false_iff]
        intro ha
        have := List.all_eq_true.1 ha _ (List.getElem_mem hi)
        rw [this] at he; cases he
      rw [this]
      exact decide_eq_true (by show (0 : Int) ≤ (i : Int); omega)
  generalize idxZ (rs.findIdx? (fun r => !rightR r)) = z at *
  refine Fn.of (rs := [.tmp 4]) (nt := 9) Try.func122 rfl rfl rfl (by simp) rfl ?_
  refine .seq ?_
  refine .region ?_
  refine asd ?_
  refine rn ?_
  refine .seq ?_
  refine .region ?_
  refine mvd ?_
  refine mvd ?_
  refine cl (xs := [.sl (RVs rs), .fn 123 [] []]) ?_ f Try.call134
  refine bi ?_
  rw [e]
  refine asd ?_
  refine rn ?_
  refine .ret ?_
  exact ⟨rfl, rfl⟩

theorem right_fn {rs : List RT} (h : ∀ r ∈ rs, okR r) (hl : rs.length ≤ 1048576) : Fn Try.prog 89 [.sl (RVs rs)] (.d (.b (rs.all rightR))) := by
  have f := ContainsR_fn h hl
  generalize rs.all rightR = b at *
  refine Fn.of (rs := [.tmp 2]) (nt := 6) Try.func89 rfl rfl rfl (by simp) rfl ?_
  refine .seq ?_
  refine .region ?_
  refine asd ?_
  refine rn ?_
  refine .seq ?_
  refine .region ?_
  refine mvd ?_
  refine cl (xs := [.sl (RVs rs), .fn 123 [] []]) ?_ f Try.call122
  refine nt_ ?_
  rw [Bool.not_not]
  refine asd ?_
  refine rn ?_
  refine .ret ?_
  exact ⟨rfl, rfl⟩

theorem lowN_form (b : Bool) (n d : Nat) : ∃ c n' d' e, lowN b n d = [Rv c n' d', .i .i64 e] := by
  unfold lowN; split
  · exact ⟨_, _, _, _, rfl⟩
  · split <;> exact ⟨_, _, _, _, rfl⟩
/-- What Make gives. -/
def makeN (b : Bool) (n d : Nat) : List DV := if d = 0 then [Rv false [] [], .i .i64 22] else lowN b n d
theorem len_zero {n : Nat} : ((((L (digs n)).length : Nat) : Int) = 0) ↔ n = 0 := by
  rw [L_length]
  constructor
  · intro h
    exact digs_nil_iff.1 (List.length_eq_zero_iff.1 (by omega))
  · rintro rfl; rw [digs_zero]; rfl

theorem Make_fn {M : Nat} {b : Bool} {n d : List Nat} (hn : Ok n) (hd : Ok d) (hln : n.length ≤ M) (hld : d.length ≤ M) (hM : M ≤ 100000) : Fn Try.prog 16 [.b b, .sl (L n), .sl (L d)] (.tup ((makeN b (val n) (val d)).map .d)) := by
  have f := lowest_fn (b := b) hn hd hln hld hM
  obtain ⟨c, n', d', e, hz3⟩ := lowN_form b (val n) (val d)
  rw [hz3] at f
  refine Fn.ofC (rs := [.cell 6 25, .tmp 7]) (nt := 21) Try.func16 rfl rfl rfl (by simp) (noBp_d _) ?_
  refine .seq ?_
  refine .region ?_
  refine vk (van (zero_of iR) rR) ?_
  refine asd ?_
  refine rn ?_
  refine .seq ?_
  refine .seq ?_
  refine .region ?_
  refine mvd ?_
  refine cl (xs := [.sl (L d)]) ?_ (Trim_fn hd (by omega)) Try.call59
  refine ln ?_ (L_sz _) l32
  refine bi ?_
  refine rn ?_
  refine .gh (Gh.keep [0, 1, 2, 6, 7, 11] rfl) ?_
  by_cases hd0 : val d = 0
  · rw [decide_eq_true (len_zero.2 hd0), makeN, if_pos hd0]
    refine cndt ?_
    refine .seq ?_
    refine .region ?_
    refine vk (vbd pR iR rR) ?_
    refine stn ?_ sR (by decide)
    refine asd ?_
    refine rn ?_
    refine .ret ?_
    exact ⟨_, _, ⟨.inr rfl, aR, sR, (by decide : (0 : Nat) < 3)⟩, rfl, rfl⟩
  rw [decide_eq_false (fun h => hd0 (len_zero.1 h)), makeN, if_neg hd0]
  refine cndf ?_
  refine .skip ?_
  show AW _ _ _ _ _ _
  refine .seq ?_
  refine .region ?_
  refine mvd ?_
  refine mvd ?_
  refine vk (vbd pZ iZ rZ) ?_
  refine mvd ?_
  refine vk (vbd pN iN rN) ?_
  refine vk (av := .d (.tup ([Rv c n' d', .i .i64 e]))) (VOK.tupd (vcl (xs := [Nv b n d]) f Try.call60)) ?_
  refine vk vex ?_
  refine vk vex ?_
  refine stn ?_ sR (by decide)
  refine asd ?_
  refine rn ?_
  refine .ret ?_
  exact ⟨_, _, ⟨.inr rfl, aR, sR, (by decide : (0 : Nat) < 3)⟩, rfl, by rw [hz3]; rfl⟩

theorem refMake_fn {M : Nat} {b : Bool} {n d : List Nat} (hn : Ok n) (hd : Ok d) (hln : n.length ≤ M) (hld : d.length ≤ M) (hM : M ≤ 100000) : Fn Try.prog 17 [.b b, .sl (L n), .sl (L d)] (.tup ((makeN b (val n) (val d)).map .d)) := by
  have l1 : (digs (val n)).length ≤ M := Nat.le_trans (digs_len_le hn) hln
  have l2 : (digs (val d)).length ≤ M := Nat.le_trans (digs_len_le hd) hld
  have g1 := refGcd_fn (M := M) (ls := [digs (val n), digs (val d)]) (by simp [digs_ok]) (by simp [l1, l2]) (by simp) hM
  rw [show gcdF [digs (val n), digs (val d)] = Nat.gcd (val n) (val d) by show Nat.gcd (Nat.gcd 0 (val (digs (val n)))) (val (digs (val d))) = _; rw [Nat.gcd_zero_left, val_digs, val_digs]] at g1
  have lg : (digs (Nat.gcd (val n) (val d))).length ≤ M := digs_len (gcd_lt (Nat.lt_of_lt_of_le (val_lt hn) (Nat.pow_le_pow_right (by decide) hln)) (Nat.lt_of_lt_of_le (val_lt hd) (Nat.pow_le_pow_right (by decide) hld)))
  have hg0 : val d ≠ 0 → Nat.gcd (val n) (val d) ≠ 0 := fun h => Nat.ne_of_gt (Nat.gcd_pos_of_pos_right _ (Nat.pos_of_ne_zero h))
  have d1 := refDivMod_fn (a := digs (val n)) (b := digs (Nat.gcd (val n) (val d))) (digs_ok _) (digs_ok _) (by omega) (by omega)
  have d2 := refDivMod_fn (a := digs (val d)) (b := digs (Nat.gcd (val n) (val d))) (digs_ok _) (digs_ok _) (by omega) (by omega)
  rw [val_digs, val_digs] at d1 d2
  have hlow : val d ≠ 0 → lowN b (val n) (val d) = if 32 < (digs (val n / Nat.gcd (val n) (val d))).length ∨ 32 < (digs (val d / Nat.gcd (val n) (val d))).length then [Rv false [] [], .i .i64 8]
      else [Rv (b && decide (val n / Nat.gcd (val n) (val d) ≠ 0)) (digs (val n / Nat.gcd (val n) (val d))) (digs (val d / Nat.gcd (val n) (val d))), .i .i64 0] := fun h => by rw [lowN, if_neg (hg0 h)]
  generalize decide (Nat.gcd (val n) (val d) ≠ 0) = ok1 at *
  generalize remN (val n) (Nat.gcd (val n) (val d)) = r1 at *
  generalize remN (val d) (Nat.gcd (val n) (val d)) = r2 at *
  generalize val n / Nat.gcd (val n) (val d) = x at *
  generalize val d / Nat.gcd (val n) (val d) = y at *
  generalize Nat.gcd (val n) (val d) = g at *
  refine Fn.ofC (rs := [.cell 6 25, .tmp 7]) (nt := 55) Try.func17 rfl rfl rfl (by simp) (noBp_d _) ?_
  refine .seq ?_
  refine .region ?_
  refine vk (van (zero_of iR) rR) ?_
  refine asd ?_
  refine rn ?_
  refine .seq ?_
  refine .region ?_
  refine mvd ?_
  refine cl (xs := [.sl (L n)]) ?_ (refTrim_fn hn (by omega)) Try.call61
  refine mvd ?_
  refine cl (xs := [.sl (L d)]) ?_ (refTrim_fn hd (by omega)) Try.call61
  refine aso ?_
  refine RL.gh (Gh.frz (p := .t 8) rfl (fun _ _ h => by cases h)) ?_
  refine aso ?_
  refine RL.gh (Gh.frz (p := .t 9) rfl (fun _ _ h => by cases h)) ?_
  refine rn ?_
  refine .gh (Gh.keep [0, 6, 7, 8, 9] rfl) ?_
  refine .seq ?_
  refine .seq ?_
  refine .region ?_
  refine mvd ?_
  refine ln ?_ (L_sz _) l32
  refine bi ?_
  refine rn ?_
  refine .gh (Gh.keep [0, 6, 7, 8, 9, 17] rfl) ?_
  by_cases hd0 : val d = 0
  · rw [decide_eq_true (len_zero.2 hd0), makeN, if_pos hd0]
    refine cndt ?_
    refine .seq ?_
    refine .region ?_
    refine vk (vbd pR iR rR) ?_
    refine stn ?_ sR (by decide)
    refine asd ?_
    refine rn ?_
    refine .ret ?_
    exact ⟨_, _, ⟨.inr rfl, aR, sR, (by decide : (0 : Nat) < 3)⟩, rfl, rfl⟩
  rw [decide_eq_false (fun h => hd0 (len_zero.1 h)), makeN, if_neg hd0]
  rw [hlow hd0]
  refine cndf ?_
  refine .skip ?_
  show AW _ _ _ _ _ _
  refine .seq ?_
  refine .region ?_
  refine mvd ?_
  refine mvd ?_
  refine bsl ?_ ?_ e2
  · simp [DV.flat, DV.cells, DV.leaf]
  refine fz (p := .t 21) ?_
  refine cl (xs := [.sl (LL [digs (val n), digs (val d)])]) ?_ g1 Try.call62
  refine asd ?_
  refine rn ?_
  refine .gh (Gh.keep [0, 6, 7, 8, 9, 10] rfl) ?_
  refine .seq ?_
  refine .region ?_
  refine mvd ?_
  refine mvd ?_
  refine cl (xs := [.sl (L (digs (val n))), .sl (L (digs g))]) ?_ d1 Try.call63
  refine mvt ?_
  refine ex ?_
  refine ex ?_
  refine ex ?_
  refine asd ?_
  refine rn ?_
  refine .gh (Gh.keep [0, 6, 7, 8, 9, 10] rfl) ?_
  refine .seq ?_
  refine .region ?_
  refine mvd ?_
  refine mvd ?_
  refine cl (xs := [.sl (L (digs (val d))), .sl (L (digs g))]) ?_ d2 Try.call63
  refine mvt ?_
  refine ex ?_
  refine ex ?_
  refine ex ?_
  refine asd ?_
  refine rn ?_
  refine .gh (Gh.keep [0, 6, 7, 8, 9] rfl) ?_
  refine .seq ?_
  refine .seq ?_
  refine .region ?_
  refine mvd ?_
  refine ln ?_ (L_sz _) l32
  refine bi ?_
  by_cases hx : 32 < (digs x).length
  · rw [decide_eq_true (show (32 : Int) < ((L (digs x)).length : Nat) by rw [L_length]; omega), if_pos (.inl hx)]
    refine mvd ?_
    refine gf ?_
    refine gf ?_
    refine gf ?_
    refine pkd ?_
    refine rn ?_
    refine cndt ?_
    refine .seq ?_
    refine .region ?_
    refine vk (vbd pR iR rR) ?_
    refine stn ?_ sR (by decide)
    refine asd ?_
    refine rn ?_
    refine .ret ?_
    exact ⟨_, _, ⟨.inr rfl, aR, sR, (by decide : (0 : Nat) < 3)⟩, rfl, rfl⟩
  rw [decide_eq_false (show ¬ (32 : Int) < ((L (digs x)).length : Nat) by rw [L_length]; omega)]
  refine mvd ?_
  refine mvd ?_
  refine ln ?_ (L_sz _) l32
  refine bi ?_
  by_cases hy : 32 < (digs y).length
  · rw [decide_eq_true (show (32 : Int) < ((L (digs y)).length : Nat) by rw [L_length]; omega), if_pos (.inr hy)]
    refine pkd ?_
    refine rn ?_
    refine cndt ?_
    refine .seq ?_
    refine .region ?_
    refine vk (vbd pR iR rR) ?_
    refine stn ?_ sR (by decide)
    refine asd ?_
    refine rn ?_
    refine .ret ?_
    exact ⟨_, _, ⟨.inr rfl, aR, sR, (by decide : (0 : Nat) < 3)⟩, rfl, rfl⟩
  rw [decide_eq_false (show ¬ (32 : Int) < ((L (digs y)).length : Nat) by rw [L_length]; omega), if_neg (by omega)]
  refine pkd ?_
  refine rn ?_
  refine cndf ?_
  refine .skip ?_
  show AW _ _ _ _ _ _
  refine .seq ?_
  refine .region ?_
  refine mvd ?_
  refine mvd ?_
  by_cases hb : b = true
  · subst hb
    refine mvd ?_
    refine ln ?_ (L_sz _) l32
    refine bi ?_
    rw [pos_digs]
    refine pkd ?_
    refine mvd ?_
    refine mvd ?_
    refine vk (vbd pR iR rR) ?_
    refine stn ?_ sR (by decide)
    refine asd ?_
    refine rn ?_
    refine .ret ?_
    exact ⟨_, _, ⟨.inr rfl, aR, sR, (by decide : (0 : Nat) < 3)⟩, rfl, rfl⟩
  rw [Bool.not_eq_true] at hb; subst hb
  refine gf ?_
  refine gf ?_
  refine gf ?_
  refine pkd ?_
  refine mvd ?_
  refine mvd ?_
  refine vk (vbd pR iR rR) ?_
  refine stn ?_ sR (by decide)
  refine asd ?_
  refine rn ?_
  refine .ret ?_
  exact ⟨_, _, ⟨.inr rfl, aR, sR, (by decide : (0 : Nat) < 3)⟩, rfl, rfl⟩

theorem refSame_fn (b c : Bool) (n d m e : List Nat) (hn : n.length ≤ 35184372087808) (hd : d.length ≤ 35184372087808) : Fn Try.prog 25 [Rv b n d, Rv c m e] (.d (.b (decide (b = c ∧ n = m ∧ d = e)))) := by
  have s1 := Same_fn n m hn
  have s2 := Same_fn d e hd
  refine Fn.of (rs := [.tmp 4]) (nt := 24) Try.func25 rfl rfl rfl (by simp) rfl ?_
  refine .seq ?_
  refine .region ?_
  refine vk vbx ?_
  refine vk vbx ?_
  refine asd ?_
  refine rn ?_
  refine .seq ?_
  refine .region ?_
  refine vk (vfa fR0) ?_
  refine ldp ?_ aB
  refine vk (vfa fR0) ?_
  refine ldp ?_ aB
  refine bbn ?_ (.inl rfl) bo
  rw [if_pos rfl]
  by_cases hb : b = c
  · subst hb
    rw [beq_self_eq_true]
    refine mvd ?_
    refine vk (vfa fR1) ?_
    refine ldp ?_ aS
    refine vk (vfa fR1) ?_
    refine ldp ?_ aS
    refine cl (xs := [.sl (L n), .sl (L m)]) ?_ s1 Try.call80
    by_cases hm : n = m
    · rw [decide_eq_true hm]
      refine pkd ?_
      refine mvd ?_
      refine vk (vfa fR2) ?_
      refine ldp ?_ aS
      refine vk (vfa fR2) ?_
      refine ldp ?_ aS
      refine cl (xs := [.sl (L d), .sl (L e)]) ?_ s2 Try.call80
      refine pkd ?_
      refine asd ?_
      refine rn ?_
      refine .ret ?_
      exact ⟨by rw [show decide (b = b ∧ n = m ∧ d = e) = decide (d = e) from decide_eq_decide.2 ⟨fun h => h.2.2, fun h => ⟨rfl, hm, h⟩⟩]; rfl, rfl⟩
    rw [decide_eq_false hm]
    refine pkd ?_
    refine mvd ?_
    refine gf ?_
    refine gf ?_
    refine gf ?_
    refine gf ?_
    refine gf ?_
    refine pkd ?_
    refine asd ?_
    refine rn ?_
    refine .ret ?_
    exact ⟨by rw [decide_eq_false (fun h => hm h.2.1)]; rfl, rfl⟩
  rw [beq_false_of_ne hb]
  refine mvd ?_
  refine gf ?_
  refine gf ?_
  refine gf ?_
  refine gf ?_
  refine gf ?_
  refine pkd ?_
  refine mvd ?_
  refine gf ?_
  refine gf ?_
  refine gf ?_
  refine gf ?_
  refine gf ?_
  refine pkd ?_
  refine asd ?_
  refine rn ?_
  refine .ret ?_
  exact ⟨by rw [decide_eq_false (fun h => hb h.1)]; rfl, rfl⟩
end Go.FL
/-
  rat: OfInt, plus, times, less; glyphref02: OfInt, Zero, signed, Two, Times.
-/
namespace Go.FL
open Go Go.Proofs

/-- A number's sign, numerator, denominator; or an error. -/
abbrev QE := Except Int (Bool × Nat × Nat)
def lowE (b : Bool) (n d : Nat) : QE :=
  if Nat.gcd n d = 0 then .error 22
  else if 32 < (digs (n / Nat.gcd n d)).length ∨ 32 < (digs (d / Nat.gcd n d)).length then .error 8
  else .ok (b && decide (n / Nat.gcd n d ≠ 0), n / Nat.gcd n d, d / Nat.gcd n d)
def makeE (b : Bool) (n d : Nat) : QE := if d = 0 then .error 22 else lowE b n d
abbrev Qv (q : Bool × Nat × Nat) : DV := Rv q.1 (digs q.2.1) (digs q.2.2)
def qb : QE → Bool
  | .error _ => false
  | .ok q => q.1
def qn : QE → List Nat
  | .error _ => []
  | .ok q => digs q.2.1
def qd : QE → List Nat
  | .error _ => []
  | .ok q => digs q.2.2
abbrev qv (x : QE) : DV := Rv (qb x) (qn x) (qd x)
def qe : QE → Int
  | .error e => e
  | .ok _ => 0
/-- What functions give that may fail. -/
abbrev resD (x : QE) : List DV := [qv x, .i .i64 (qe x)]
theorem lowN_res (b : Bool) (n d : Nat) : lowN b n d = resD (lowE b n d) := by
  unfold lowN lowE; split
  · rfl
  · split <;> rfl
theorem makeN_res (b : Bool) (n d : Nat) : makeN b n d = resD (makeE b n d) := by
  unfold makeN makeE; split
  · rfl
  · exact lowN_res b n d
def timesN (x y : Bool × Nat × Nat) : Bool × Nat × Nat := (x.1 != y.1, x.2.1 * y.2.1, x.2.2 * y.2.2)
theorem u64_nn {z : Int} (h0 : 0 ≤ z) (h1 : z ≤ 9223372036854775807) : IntKind.u64.wrap z = ((z.natAbs : Nat) : Int) := by
  simp only [IntKind.wrap, IntKind.bits, IntKind.signed]; simp; omega
theorem u64_neg {z : Int} (h0 : z < 0) (h1 : -9223372036854775808 ≤ z) : IntKind.u64.wrap (0 - IntKind.u64.wrap z) = ((z.natAbs : Nat) : Int) := by
  simp only [IntKind.wrap, IntKind.bits, IntKind.signed]; simp; omega

theorem OfInt_fn {z : Int} (h1 : -9223372036854775808 ≤ z) (h2 : z ≤ 9223372036854775807) : Fn Try.prog 28 [.i .i64 z] (.d (Rv (decide (z < 0)) (digs z.natAbs) [1])) := by
  have f := Of_fn (n := z.natAbs) (by omega)
  refine Fn.ofC (rs := [.cell 2 25]) (nt := 16) Try.func28 rfl rfl rfl (by simp) rfl ?_
  refine .seq ?_
  refine .region ?_
  refine vk (van (zero_of iR) rR) ?_
  refine rn ?_
  refine .seq ?_
  refine .seq ?_
  refine .region ?_
  refine mvd ?_
  refine bi ?_
  refine rn ?_
  by_cases hz : z < 0
  · rw [decide_eq_true hz]
    refine cndt ?_
    refine .seq ?_
    refine .region ?_
    refine mvd ?_
    refine cv ?_ i64 u64
    refine ng ?_
    rw [u64_neg hz h1]
    refine cl (xs := [.i .u64 ((z.natAbs : Nat) : Int)]) ?_ f Try.call84
    refine cl (xs := []) ?_ one_fn Try.call66
    refine fz (p := .t 9) ?_
    refine vk (vbd pR iR rR) ?_
    refine stn ?_ sR (by decide)
    refine rn ?_
    refine .ret ?_
    exact ⟨_, ⟨.inr rfl, aR, sR, (by decide : (0 : Nat) < 3)⟩, rfl⟩
  rw [decide_eq_false hz]
  refine cndf ?_
  refine .skip ?_
  show AW _ _ _ _ _ _
  refine .seq ?_
  refine .region ?_
  refine mvd ?_
  refine cv ?_ i64 u64
  rw [u64_nn (by omega) h2]
  refine cl (xs := [.i .u64 ((z.natAbs : Nat) : Int)]) ?_ f Try.call84
  refine cl (xs := []) ?_ one_fn Try.call66
  refine fz (p := .t 14) ?_
  refine vk (vbd pR iR rR) ?_
  refine stn ?_ sR (by decide)
  refine rn ?_
  refine .ret ?_
  exact ⟨_, ⟨.inr rfl, aR, sR, (by decide : (0 : Nat) < 3)⟩, rfl⟩


theorem times_fn {b c : Bool} {n d m e : List Nat} (hn : Ok n) (hd : Ok d) (hm : Ok m) (he : Ok e) (hln : n.length ≤ 4000) (hld : d.length ≤ 4000) (hlm : m.length ≤ 4000) (hle : e.length ≤ 4000) :
    Fn Try.prog 88 [Nv b n d, Nv c m e] (.d (Nv (b != c) (digs (val n * val m)) (digs (val d * val e)))) := by
  have p1 := prods_fn (M := 4000) (ls := [n, m]) (by simp [hn, hm]) (by simp [hln, hlm]) (by simp) (by decide)
  rw [show prodF [n, m] 1 = val n * val m by show 1 * val n * val m = _; rw [Nat.one_mul]] at p1
  have p2 := prods_fn (M := 4000) (ls := [d, e]) (by simp [hd, he]) (by simp [hld, hle]) (by simp) (by decide)
  rw [show prodF [d, e] 1 = val d * val e by show 1 * val d * val e = _; rw [Nat.one_mul]] at p2
  refine Fn.ofC (rs := [.cell 4 58]) (nt := 28) Try.func88 rfl rfl rfl (by simp) rfl ?_
  refine .seq ?_
  refine .region ?_
  refine vk vbx ?_
  refine vk vbx ?_
  refine vk (van (zero_of iN) rN) ?_
  refine rn ?_
  refine .seq ?_
  refine .drawn 23 mixed (by kernel_rfl) ?_
  refine dv (vfa fN0) ?_
  refine dv (vfa fZ0) ?_
  refine dv (vldp aS) ?_
  refine dv (vfa fN0) ?_
  refine dv (vfa fZ0) ?_
  refine dv (vldp aS) ?_
  refine dv (v := .d (.sl (LL [n, m]))) (vbsl (LL_flat [n, m]) e2).deep ?_
  refine dv (v := .d (.sl (L (digs (val n * val m))))) (vcl (xs := [.sl (LL [n, m])]) (r := .d (.sl (L (digs (val n * val m))))) p1 Try.call73) ?_
  refine dv (vfa fN0) ?_
  refine dv (vfa fZ1) ?_
  refine dv (vldp aS) ?_
  refine dv (vfa fN0) ?_
  refine dv (vfa fZ1) ?_
  refine dv (vldp aS) ?_
  refine dv (v := .d (.sl (LL [d, e]))) (vbsl (LL_flat [d, e]) e2).deep ?_
  refine dv (v := .d (.sl (L (digs (val d * val e))))) (vcl (xs := [.sl (LL [d, e])]) (r := .d (.sl (L (digs (val d * val e))))) p2 Try.call73) ?_
  refine dv (vbd pZ iZ rZ) ?_
  refine dv (vfa fN1) ?_
  refine dv (vldp aB) ?_
  refine dv (vfa fN1) ?_
  refine dv (vldp aB) ?_
  refine dv (vbbn (.inr rfl) bo) ?_
  refine dv (vbd pN iN rN) ?_
  refine dz ?_
  refine stn ?_ sN (by decide)
  refine rn ?_
  refine .ret ?_
  exact ⟨_, ⟨.inr rfl, aN, sN, (by decide : (0 : Nat) < 3)⟩, rfl⟩
end Go.FL
/-
  rat: fold, Add, Mul.
-/
namespace Go.FL
open Go Go.Proofs

abbrev Q3 := Bool × Nat × Nat
abbrev lowQ (q : Q3) : QE := lowE q.1 q.2.1 q.2.2
/-- A number as it comes, by its values. -/
abbrev rq (r : RT) : Q3 := (r.1, val r.2.1, val r.2.2)
def foldE (op : Q3 → Q3 → Q3) : Q3 → List RT → QE
  | s, [] => .ok s
  | s, r :: rs => match lowQ (op s (rq r)) with
    | .error e => .error e
    | .ok t => foldE op t rs
def small3 (q : Q3) : Prop := (digs q.2.1).length ≤ 32 ∧ (digs q.2.2).length ≤ 32
theorem lowE_ok {b : Bool} {n d : Nat} {t : Q3} (h : lowE b n d = .ok t) : small3 t := by
  unfold lowE at h
  split at h
  · cases h
  · split at h
    · cases h
    · rename_i h2
      cases h
      exact ⟨Nat.le_of_not_lt fun h3 => h2 (.inl h3), Nat.le_of_not_lt fun h3 => h2 (.inr h3)⟩
theorem lowE_err {b : Bool} {n d : Nat} {e : Int} (h : lowE b n d = .error e) : e ≠ 0 := by
  unfold lowE at h
  split at h
  · cases h; decide
  · split at h
    · cases h; decide
    · cases h
theorem qe_err {x : QE} (h : ¬ qe x = 0) : ∃ e, x = .error e := by
  cases x with
  | error e => exact ⟨e, rfl⟩
  | ok t => exact absurd rfl h
theorem qe_ok {x : QE} (h : qe x = 0) (h2 : ∀ e, x = .error e → e ≠ 0) : ∃ t, x = .ok t := by
  cases x with
  | error e => exact absurd h (h2 e rfl)
  | ok t => exact ⟨t, rfl⟩
theorem rightR_len {r : RT} (h : rightR r = true) : r.2.1.length ≤ 32 ∧ r.2.2.length ≤ 32 := by
  have : RightP r.1 r.2.1 r.2.2 := of_decide_eq_true h
  exact ⟨this.2.2.1, this.2.2.2.1⟩
/-- The calls of a function of two numbers. -/
def twoFn (f : Nat) (op : Q3 → Q3 → Q3) : Prop :=
  ∀ (b c : Bool) (n d m e : List Nat), Ok n → Ok d → Ok m → Ok e → n.length ≤ 32 → d.length ≤ 32 → m.length ≤ 32 → e.length ≤ 32 →
    Fn Try.prog f [Nv b n d, Nv c m e] (.d (Nv (op (b, val n, val d) (c, val m, val e)).1 (digs (op (b, val n, val d) (c, val m, val e)).2.1) (digs (op (b, val n, val d) (c, val m, val e)).2.2)))
    ∧ (digs (op (b, val n, val d) (c, val m, val e)).2.1).length ≤ 100 ∧ (digs (op (b, val n, val d) (c, val m, val e)).2.2).length ≤ 100

theorem fold_fn {z : Int} {rs : List RT} {f : Nat} {op : Q3 → Q3 → Q3} (hz0 : 0 ≤ z) (hz1 : z ≤ 1) (h : ∀ r ∈ rs, okR r) (hl : rs.length ≤ 1048576) (hop : twoFn f op) (hcall : ∀ args w, (callFunc f args).run Try.prog w = .ok (.enter f args) w) :
    Fn Try.prog 86 [.i .i64 z, .sl (RVs rs), .fn f [] []] (.tup ((resD (if rs.all rightR = true then foldE op (false, z.natAbs, 1) rs else .error 22)).map .d)) := by
  have f1 := right_fn h hl
  have f2 := OfInt_fn (z := z) (by omega) (by omega)
  rw [decide_eq_false (show ¬ z < 0 by omega)] at f2
  have one : digs 1 = [1] := one_limb (n := 1) (by decide) (by decide)
  refine Fn.ofC (rs := [.cell 6 25, .tmp 7]) (nt := 42) Try.func86 rfl rfl rfl (by simp) (noBp_d _) ?_
  refine .seq ?_
  refine .region ?_
  refine vk (van (zero_of iR) rR) ?_
  refine asd ?_
  refine rn ?_
  refine .seq ?_
  refine .seq ?_
  refine .region ?_
  refine mvd ?_
  refine cl (xs := [.sl (RVs rs)]) ?_ f1 Try.call89
  refine nt_ ?_
  refine rn ?_
  refine .gh (Gh.keep [0, 1, 2, 6, 7, 15] rfl) ?_
  by_cases hr : rs.all rightR = false
  · rw [hr, if_neg (by decide)]
    refine cndt ?_
    refine .seq ?_
    refine .region ?_
    refine vk (vbd pR iR rR) ?_
    refine stn ?_ sR (by decide)
    refine asd ?_
    refine rn ?_
    refine .ret ?_
    exact ⟨_, _, ⟨.inr rfl, aR, sR, (by decide : (0 : Nat) < 3)⟩, rfl, rfl⟩
  rw [Bool.not_eq_false] at hr
  rw [hr, if_pos rfl]
  refine cndf ?_
  refine .skip ?_
  show AW _ _ _ _ _ _
  refine .seq ?_
  refine .region ?_
  refine mvd ?_
  refine cl (xs := [.i .i64 z]) ?_ f2 Try.call28
  refine vk (van (zero_of iR) rR) ?_
  refine stn ?_ sR (by decide)
  refine rn ?_
  refine .gh (Gh.keep [1, 2, 6, 8] rfl) ?_
  refine .seq ?_
  refine .seq ?_
  refine .region ?_
  refine mvd ?_
  refine ln ?_ (RVs_sz _) lR
  refine mvd ?_
  refine rn ?_
  refine .block ?_
  refine .loop (.gh (Gh.keep [2, 6, 8, 19, 20, 21] rfl) ?_)
  refine AL.cast (env' := [(2, .d (.fn f [] [])), (6, .nb [.b false, .sl [], .sl []]), (8, .nb [.b false, .sl (L (digs z.natAbs)), .sl (L (digs 1))]), (19, .d (.sl (RVs rs))), (20, .d (.i .i64 ((RVs rs).length : Nat))), (21, .d (.i .i64 ((0 : Nat) : Int)))]) (by rw [one]; rfl) ?_
  refine AL.ind (σ := Q3 × Nat) (m := fun p => rs.length - p.2) (e := fun p => [(2, .d (.fn f [] [])), (6, .nb [.b false, .sl [], .sl []]), (8, .nb [.b p.1.1, .sl (L (digs p.1.2.1)), .sl (L (digs p.1.2.2))]), (19, .d (.sl (RVs rs))), (20, .d (.i .i64 ((RVs rs).length : Nat))), (21, .d (.i .i64 (p.2 : Int)))]) (h := fun _ => [])
    (I := fun p => p.2 ≤ rs.length ∧ small3 p.1 ∧ foldE op p.1 (rs.drop p.2) = foldE op (false, z.natAbs, 1) rs) ?_ ((false, z.natAbs, 1), 0) ⟨Nat.zero_le _, ⟨by have := digs_len (n := z.natAbs) (k := 32) (Nat.lt_of_lt_of_le (show z.natAbs < 2 by omega) (by decide)); exact this, by rw [one]; decide⟩, rfl⟩
  rintro ⟨s, i⟩ ⟨h1, h2, h3⟩ ih
  dsimp only at h1 h2 h3 ih ⊢
  refine .seq ?_
  refine .region ?_
  refine bi ?_
  refine rn ?_
  refine .seq ?_
  by_cases hi : i < rs.length
  · rw [decide_eq_true (show (i : Int) < ((RVs rs).length : Nat) by rw [RVs_length]; omega)]
    have hx : rs[i]? = some rs[i] := List.getElem?_eq_getElem hi
    have hdr : rs.drop i = rs[i] :: rs.drop (i + 1) := List.drop_eq_getElem_cons hi
    generalize rs[i] = r at hx hdr
    have hmem := List.mem_of_getElem? hx
    obtain ⟨o1, o2, o3, o4⟩ := h r hmem
    obtain ⟨l1, l2⟩ := rightR_len (List.all_eq_true.1 hr r hmem)
    obtain ⟨w1, w3, w4⟩ := hop s.1 r.1 (digs s.2.1) (digs s.2.2) r.2.1 r.2.2 (digs_ok _) (digs_ok _) o1 o2 h2.1 h2.2 l1 l2
    rw [hdr] at h3
    rw [val_digs, val_digs] at w1 w3 w4
    rw [foldE] at h3
    have hop2 : op (s.1, s.2.1, s.2.2) (r.1, val r.2.1, val r.2.2) = op s (rq r) := rfl
    rw [hop2] at w1 w3 w4
    generalize op s (rq r) = t at *
    have w2 := lowest_fn (M := 100) (b := t.1) (digs_ok t.2.1) (digs_ok t.2.2) w3 w4 (by decide)
    rw [val_digs, val_digs, lowN_res] at w2
    have hxs : ∀ q, lowQ t = .ok q → small3 q := fun q hq => lowE_ok hq
    have hxe : ∀ e, lowQ t = .error e → e ≠ 0 := fun e he => lowE_err he
    replace w2 : Fn Try.prog 60 [Nv t.1 (digs t.2.1) (digs t.2.2)] (.tup ((resD (lowQ t)).map .d)) := w2
    generalize lowQ t = x at *
    refine cndt ?_
    refine .skip ?_
    show AW _ _ _ _ _ _
    refine .seq ?_
    refine .block ?_
    refine .seq ?_
    refine .region ?_
    refine ix i ?_ rfl (RVs_at hx) rfl slR
    refine vk (vlda aR sR) ?_
    refine vk (van (zero_of iR) rR) ?_
    refine stn ?_ sR (by decide)
    refine RL.gh (Gh.nbp (t := 10) rfl) ?_
    refine rn ?_
    refine .gh (Gh.keep [2, 6, 8, 10, 19, 20, 21] rfl) ?_
    refine .seq ?_
    refine .drawnF 11 [9] [(11, .nb [.b (qb x), .sl (L (qn x)), .sl (L (qd x))])] [] mixed (by kernel_rfl) rfl ?_
    refine dv vmvd ?_
    refine dv (vldn aR sR) ?_
    refine dv (v := .d (Nv s.1 (digs s.2.1) (digs s.2.2))) (vcl (xs := [Qv s]) (r := .d (Nv s.1 (digs s.2.1) (digs s.2.2))) (of_fn s.1 (digs s.2.1) (digs s.2.2)) Try.call90) ?_
    refine dv (vlda aR sR) ?_
    refine dv (v := .d (Nv r.1 r.2.1 r.2.2)) (vcl (xs := [Rv r.1 r.2.1 r.2.2]) (r := .d (Nv r.1 r.2.1 r.2.2)) (of_fn r.1 r.2.1 r.2.2) Try.call90) ?_
    refine dv (v := .d (Nv t.1 (digs t.2.1) (digs t.2.2))) (vcl (xs := [Nv s.1 (digs s.2.1) (digs s.2.2), Nv r.1 r.2.1 r.2.2]) (r := .d (Nv t.1 (digs t.2.1) (digs t.2.2))) w1 hcall) ?_
    refine dv (v := .d (.tup (resD x))) (VOK.tupd (vcl (xs := [Nv t.1 (digs t.2.1) (digs t.2.2)]) w2 Try.call60)) ?_
    refine dv vmvd ?_
    refine dv vex ?_
    refine dv vex ?_
    refine dv (van (zero_of iR) rR) ?_
    refine dz ?_
    refine ⟨?_, ?_, ?_⟩
    · intro k hk
      simp only [List.mem_cons, List.not_mem_nil, or_false] at hk
      subst hk
      exact ⟨_, _, _, rfl, rfl, rfl, rfl, rfl, rfl, vex⟩
    · intro om e hom hge
      cases hom
      exact ok_stn (cs := [.b false, .sl [], .sl []]) (cs' := [.b (qb x), .sl (L (qn x)), .sl (L (qd x))]) sR (by decide) rfl ((hge 11 (fun k hk v hv => by
          simp only [List.mem_cons, List.not_mem_nil, or_false] at hk
          subst hk; exact (by decide : ¬ (some 34 = some 11)) (congrArg (Option.map Prod.fst) hv))).trans rfl) ((congrArg deepOf (hge 33 (fun k hk v hv => by
          simp only [List.mem_cons, List.not_mem_nil, or_false] at hk
          subst hk; exact (by decide : ¬ (some 34 = some 33)) (congrArg (Option.map Prod.fst) hv)))).trans rfl) rfl rfl rfl rfl ⟨rfl, rfl⟩
    refine RL.gh (Gh.nbp (t := 11) rfl) ?_
    refine asd ?_
    refine rn ?_
    refine .gh (Gh.keep [2, 6, 8, 11, 12, 19, 20, 21] rfl) ?_
    refine .seq ?_
    refine .seq ?_
    refine .region ?_
    refine mvd ?_
    refine bi ?_
    refine rn ?_
    by_cases hxq : ¬ qe x = 0
    · rw [decide_eq_false hxq]
      obtain ⟨e, rfl⟩ := qe_err hxq
      refine cndt ?_
      refine .seq ?_
      refine .region ?_
      refine vk (vbd pR iR rR) ?_
      refine mvd ?_
      refine stn ?_ sR (by decide)
      refine asd ?_
      refine rn ?_
      refine .ret ?_
      exact ⟨_, _, ⟨.inr rfl, aR, sR, (by decide : (0 : Nat) < 3)⟩, rfl, by rw [← h3]; rfl⟩
    rw [Decidable.not_not] at hxq
    rw [decide_eq_true hxq]
    obtain ⟨q, rfl⟩ := qe_ok hxq hxe
    refine cndf ?_
    refine .skip ?_
    show AW _ _ _ _ _ _
    refine .region ?_
    refine vk (vlda aR sR) ?_
    refine stn ?_ sR (by decide)
    refine .nil ?_
    show AW _ _ _ _ _ _
    refine .region ?_
    refine ad ((i + 1 : Nat) : Int) ?_ ?_
    · omega
    refine mvd ?_
    refine .nil ?_
    refine AL.gh (Gh.keep [2, 6, 8, 19, 20, 21] rfl) ?_
    exact ih (q, i + 1) ⟨by dsimp only; omega, hxs q rfl, h3⟩ (by dsimp only; omega)
  rw [decide_eq_false (show ¬ (i : Int) < ((RVs rs).length : Nat) by rw [RVs_length]; omega)]
  refine cndf ?_
  refine .exit ?_
  show AW _ _ _ _ _ _
  refine .seq ?_
  refine .region ?_
  refine vk (vldn aR sR) ?_
  refine stn ?_ sR (by decide)
  refine asd ?_
  refine rn ?_
  refine .ret ?_
  rw [List.drop_eq_nil_of_le (by omega)] at h3
  exact ⟨_, _, ⟨.inr rfl, aR, sR, (by decide : (0 : Nat) < 3)⟩, rfl, by rw [← h3]; rfl⟩

theorem mul_len {x y : List Nat} {k : Nat} (hx : Ok x) (hy : Ok y) (lx : x.length ≤ k) (ly : y.length ≤ k) : (digs (val x * val y)).length ≤ 2 * k :=
  Nat.le_trans (digs_len (k := _ + _) (by rw [Nat.pow_add]; exact Nat.mul_lt_mul'' (val_lt hx) (val_lt hy))) (by omega)
theorem times_two : twoFn 88 timesN := by
  intro b c n d m e hn hd hm he ln ld lm le
  have l1 := mul_len hn hm ln lm
  have l2 := mul_len hd he ld le
  exact ⟨times_fn hn hd hm he (by omega) (by omega) (by omega) (by omega), by show (digs (val n * val m)).length ≤ 100; omega, by show (digs (val d * val e)).length ≤ 100; omega⟩
def mulE (rs : List RT) : QE := if rs.all rightR = true then foldE timesN (false, 1, 1) rs else .error 22

theorem RMul_fn {rs : List RT} (h : ∀ r ∈ rs, okR r) (hl : rs.length ≤ 1048576) : Fn Try.prog 35 [.sl (RVs rs)] (.tup ((resD (mulE rs)).map .d)) := by
  have f := fold_fn (z := 1) (by decide) (by decide) h hl times_two Try.call88
  replace f : Fn Try.prog 86 [.i .i64 1, .sl (RVs rs), .fn 88 [] []] (.tup ((resD (mulE rs)).map .d)) := f
  generalize mulE rs = x at *
  refine Fn.ofC (rs := [.cell 2 25, .tmp 3]) (nt := 8) Try.func35 rfl rfl rfl (by simp) (noBp_d _) ?_
  refine .seq ?_
  refine .region ?_
  refine vk (van (zero_of iR) rR) ?_
  refine asd ?_
  refine rn ?_
  refine .seq ?_
  refine .region ?_
  refine mvd ?_
  refine vk (av := .d (.tup (resD x))) (VOK.tupd (vcl (xs := [.i .i64 1, .sl (RVs rs), .fn 88 [] []]) f Try.call86)) ?_
  refine vk vex ?_
  refine vk vex ?_
  refine stn ?_ sR (by decide)
  refine asd ?_
  refine rn ?_
  refine .ret ?_
  exact ⟨_, _, ⟨.inr rfl, aR, sR, (by decide : (0 : Nat) < 3)⟩, rfl, rfl⟩
end Go.FL
/-
  GP, 2: facts of the types.
-/
namespace Go.FL
open Go Go.Proofs

theorem ga_bool : aggT Try.prog 4 = some false := by kernel_rfl
theorem gk_int32 : Try.prog.underlying 21 = some (.int .i32) := by kernel_rfl
theorem gA_R : aggT Try.prog 25 = some true := by kernel_rfl
theorem gS_R : szOf Try.prog 25 = 3 := by kernel_rfl
theorem gF_R_0 : fieldT Try.prog 25 0 = some (0, 1) := by kernel_rfl
theorem gF_R_1 : fieldT Try.prog 25 1 = some (1, 1) := by kernel_rfl
theorem gF_R_2 : fieldT Try.prog 25 2 = some (2, 1) := by kernel_rfl
theorem gP_R : structT Try.prog 25 = some [(0, 1), (1, 1), (2, 1)] := by kernel_rfl
theorem gI_R : (Try.prog.info? 25).bind (·.zero) = some (.agg #[.bool false, .slice none 0 0, .slice none 0 0]) := by kernel_rfl
theorem gZ_R (w : World) (I : Nat → Prop) : RepAll w I [.b false, .sl [], .sl []] (Value.agg #[.bool false, .slice none 0 0, .slice none 0 0]).cells.toList := .cons (.b _) (.cons (.sl0 _ _) (.cons (.sl0 _ _) (.nil)))
theorem ga_L : aggT Try.prog 22 = some false := by kernel_rfl
theorem ge_L : elemT Try.prog 22 = some (65, 1, 4, .int .u32 0) := by kernel_rfl
theorem gu_L : Try.prog.underlying 22 = some (.slice (Try.prog.elem 22)) := by kernel_rfl
theorem ge_LL : elemT Try.prog 61 = some (22, 1, 24, .slice none 0 0) := by kernel_rfl
theorem ge_RVs : elemT Try.prog 50 = some (25, 3, 56, .agg #[.bool false, .slice none 0 0, .slice none 0 0]) := by kernel_rfl
theorem RVs_flat (xs : List RT) : ∀ d ∈ RVs xs, d.flat = true ∧ d.cells.length = 3 := fun x hx => by
  simp only [RVs, List.mem_map] at hx
  obtain ⟨n, _, rfl⟩ := hx
  exact ⟨by simp [DV.flat, DV.cells, DV.leaf], rfl⟩
end Go.FL
/-
  Texts and their numbers.
-/
namespace Go.FL
open Go Go.Proofs

/-- What digits read as, behind a number; or none. -/
def pv : List Nat → Nat → Option Nat
  | [], n => some n
  | c :: r, n => if 48 ≤ c ∧ c ≤ 57 then pv r (n * 10 + (c - 48)) else none
def parN (bs : List Nat) : Nat := (pv bs 0).getD 0
def parOK (bs : List Nat) : Bool := (pv bs 0).isSome && !bs.isEmpty
theorem pv_append : ∀ (a b : List Nat) (n : Nat), pv (a ++ b) n = (pv a n).bind (pv b)
  | [], b, n => rfl
  | c :: r, b, n => by
    simp only [List.cons_append, pv]
    split
    · exact pv_append r b _
    · rfl
theorem pv_dig : ∀ (xs : List Nat) (n : Nat), Dig xs → pv xs.reverse n = some (n * 10 ^ xs.length + dval xs)
  | [], n, _ => by simp [pv, dval]
  | x :: r, n, h => by
    have hx := h x (by simp)
    rw [List.reverse_cons, pv_append, pv_dig r n (fun y hy => h y (by simp [hy]))]
    simp only [Option.bind_some, pv]
    rw [if_pos hx]
    congr 1
    simp only [dval, List.length_cons, Nat.pow_succ]
    rw [Nat.add_mul, Nat.mul_assoc]; omega
theorem pv_decT (n : Nat) : pv (decT n) 0 = some n := by
  unfold decT
  split
  · rename_i h; subst h; rfl
  · rw [pv_dig _ _ (decR_dig n), dval_decR]; simp
theorem decT_ne (n : Nat) : decT n ≠ [] := by
  unfold decT
  split
  · simp
  · rename_i h; simpa using decR_ne h
theorem par_decT (n : Nat) : parN (decT n) = n ∧ parOK (decT n) = true := by
  unfold parN parOK
  rw [pv_decT]
  refine ⟨rfl, ?_⟩
  cases h : decT n with
  | nil => exact absurd h (decT_ne n)
  | cons x r => rfl
theorem pv_lt : ∀ (bs : List Nat) (n m : Nat), pv bs n = some m → m < (n + 1) * 10 ^ bs.length
  | [], n, m, h => by simp [pv] at h; subst h; simp
  | c :: r, n, m, h => by
    simp only [pv] at h
    split at h
    · have := pv_lt r _ m h
      rw [List.length_cons, Nat.pow_succ, Nat.mul_comm (10 ^ r.length), ← Nat.mul_assoc]
      exact Nat.lt_of_lt_of_le this (Nat.mul_le_mul_right _ (by omega))
    · cases h
theorem decT_len {n k : Nat} (h : n < 10 ^ k) : (decT n).length ≤ k + 1 := by
  unfold decT
  split
  · simp
  · rw [List.length_reverse]; have := decR_len h; omega
end Go.FL
/-
  nat.Parse; glyphref01's Parse, Print.
-/
namespace Go.FL
open Go Go.Proofs

theorem drop_at {bs : List Nat} {i : Nat} (h : i < bs.length) : bs.drop i = bs[i] :: bs.drop (i + 1) := List.drop_eq_getElem_cons h
theorem pow10_le (i : Nat) : 10 ^ i ≤ 4294967296 ^ i := Nat.pow_le_pow_left (by decide) i
theorem empty_iff (s : ByteArray) : decide (s = ByteArray.empty) = (byts s).isEmpty := by
  by_cases h : s = ByteArray.empty
  · subst h; rfl
  · rw [decide_eq_false h]
    cases hb : byts s with
    | nil =>
      exfalso; apply h
      have : s.data.toList = [] := by simpa [byts] using hb
      apply ByteArray.ext
      apply Array.ext'
      rw [this]; rfl
    | cons x r => rfl
theorem u8_sub {c : Nat} (h1 : 48 ≤ c) (h2 : c ≤ 57) : IntKind.u8.wrap ((c : Int) - 48) = ((c - 48 : Nat) : Int) := by
  simp only [IntKind.wrap, IntKind.bits, IntKind.signed]; simp; omega
theorem Parse_fn {s : ByteArray} (hl : s.size ≤ 5000) : Fn Try.prog 72 [.s s] (.tup [.d (.sl (L (digs (parN (byts s))))), .d (.b (parOK (byts s)))]) := by
  have hbl := byts_length s
  have hb256 := byts_lt s
  have hemp := empty_iff s
  refine Fn.of (rs := [.tmp 2, .tmp 3]) (nt := 33) Try.func72 rfl rfl rfl (by simp) rfl ?_
  refine .seq ?_
  refine .region ?_
  refine asn ?_
  refine asd ?_
  refine rn ?_
  refine .seq ?_
  refine .region ?_
  refine asn ?_
  refine rn ?_
  refine .mid (fun e H' => H' = [] ∧ ∃ n, pv (byts s) 0 = some n ∧ e = [(0, .d (.s s)), (4, .d (.sl (L (digs n))))]) ?_ ?_
  · refine .seq ?_
    refine .region ?_
    refine mvd ?_
    refine csb st q8 u8 ?_
    generalize byts s = bs at *
    refine ln ?_ ⟨1, B_sz bs⟩ l8
    refine mvd ?_
    refine rn ?_
    refine .block ?_
    refine .gh (Gh.nlD (t := 4) rfl) ?_
    refine .loop (.gh (Gh.keep [0, 2, 3, 4, 8, 9, 10] rfl) ?_)
    refine AL.cast (env' := [(0, .d (.s s)), (2, .nl), (3, .d (.b false)), (4, .d (.sl (L (digs 0)))), (8, .d (.sl (B bs))), (9, .d (.i .i64 ((B bs).length : Nat))), (10, .d (.i .i64 ((0 : Nat) : Int)))]) (by rw [digs_zero]; rfl) ?_
    refine AL.ind (σ := Nat × Nat) (m := fun p => bs.length - p.1) (e := fun p => [(0, .d (.s s)), (2, .nl), (3, .d (.b false)), (4, .d (.sl (L (digs p.2)))), (8, .d (.sl (B bs))), (9, .d (.i .i64 ((B bs).length : Nat))), (10, .d (.i .i64 (p.1 : Int)))]) (h := fun _ => [])
      (I := fun p => p.1 ≤ bs.length ∧ pv bs 0 = pv (bs.drop p.1) p.2 ∧ p.2 < 10 ^ p.1) ?_ (0, 0) ⟨by simp, by simp, by simp⟩
    rintro ⟨i, n⟩ ⟨h1, h2, h3⟩ ih
    dsimp only at h1 h2 h3 ih ⊢
    refine .seq ?_
    refine .region ?_
    refine bi ?_
    refine rn ?_
    refine .seq ?_
    by_cases hi : i < bs.length
    · rw [decide_eq_true (show (i : Int) < ((B bs).length : Nat) by rw [B_length]; omega)]
      have hx : bs[i]? = some bs[i] := List.getElem?_eq_getElem hi
      rw [drop_at hi] at h2
      generalize bs[i] = c at *
      have hc256 := hb256 c (List.mem_of_getElem? hx)
      refine cndt ?_
      refine .skip ?_
      show AW _ _ _ _ _ _
      refine .seq ?_
      refine .block ?_
      refine .seq ?_
      refine .region ?_
      refine ix i ?_ rfl (B_at hx) rfl s8
      refine ldp ?_ a8
      refine asd ?_
      refine rn ?_
      refine .gh (Gh.keep [0, 2, 3, 4, 6, 8, 9, 10] rfl) ?_
      refine .mid (fun e H' => H' = [] ∧ (48 ≤ c ∧ c ≤ 57) ∧ e = [(0, .d (.s s)), (2, .nl), (3, .d (.b false)), (4, .d (.sl (L (digs n)))), (6, .d (.i .u8 (c : Int))), (8, .d (.sl (B bs))), (9, .d (.i .i64 ((B bs).length : Nat))), (10, .d (.i .i64 (i : Int)))]) ?_ ?_
      · have bad : ¬ (48 ≤ c ∧ c ≤ 57) → parN bs = 0 ∧ parOK bs = false := fun h => by
          have : pv bs 0 = none := by rw [h2, pv, if_neg h]
          unfold parN parOK; rw [this]; exact ⟨rfl, rfl⟩
        refine .seq ?_
        refine .region ?_
        refine mvd ?_
        refine bi ?_
        refine mvd ?_
        by_cases hc1 : c < 48
        · rw [decide_eq_true (show (c : Int) < 48 by omega)]
          obtain ⟨b1, b2⟩ := bad (by omega)
          refine gf ?_
          refine gf ?_
          refine pkd ?_
          refine rn ?_
          refine cndt ?_
          refine .seq ?_
          refine .region ?_
          refine asn ?_
          refine asd ?_
          refine rn ?_
          refine .gh (Gh.nlD (t := 2) rfl) ?_
          refine .ret ?_
          exact ⟨by decide, by rw [b1, b2, digs_zero]; rfl, rfl, rfl⟩
        · rw [decide_eq_false (show ¬ (c : Int) < 48 by omega)]
          refine mvd ?_
          refine bi ?_
          refine pkd ?_
          refine rn ?_
          by_cases hc2 : 57 < c
          · rw [decide_eq_true (show (57 : Int) < (c : Int) by omega)]
            obtain ⟨b1, b2⟩ := bad (by omega)
            refine cndt ?_
            refine .seq ?_
            refine .region ?_
            refine asn ?_
            refine asd ?_
            refine rn ?_
            refine .gh (Gh.nlD (t := 2) rfl) ?_
            refine .ret ?_
            exact ⟨by decide, by rw [b1, b2, digs_zero]; rfl, rfl, rfl⟩
          · rw [decide_eq_false (show ¬ (57 : Int) < (c : Int) by omega)]
            refine cndf ?_
            refine .gh (Gh.keep [0, 2, 3, 4, 6, 8, 9, 10] rfl) ?_
            refine .skip ?_
            exact ⟨rfl, by omega, rfl⟩
      rintro _ _ ⟨rfl, hc, rfl⟩
      have hnl : (digs n).length ≤ 5000 := Nat.le_trans (digs_len (Nat.lt_of_lt_of_le h3 (pow10_le i))) (by omega)
      have hv10 : val [10] = 10 := by simp [val]
      have hpl : (digs (n * 10)).length ≤ 5001 := Nat.le_trans (digs_len (k := i + 1) (by
        refine Nat.lt_of_lt_of_le ?_ (pow10_le (i + 1))
        rw [Nat.pow_succ]; omega)) (by omega)
      have fp := prod_fn (a := digs n) (b := [10]) (digs_ok n) (by simp [Ok]) (by omega) (by simp)
      rw [val_digs, hv10] at fp
      have fs := sum_fn (M := 5001) (ls := [digs (n * 10), [c - 48]]) (by simp [digs_ok]; simp [Ok]; omega) (by simp; omega) (by simp) (by decide)
      have es : ([digs (n * 10), [c - 48]].map val).sum = n * 10 + (c - 48) := by simp [val_digs, val]
      rw [es] at fs
      generalize digs (n * 10) = pd at *
      refine .region ?_
      refine mvd ?_
      refine bsl ?_ ?_ e32
      · simp [DV.flat, DV.cells, DV.leaf]
      refine fz (p := .t 21) ?_
      refine cl (xs := [.sl (L (digs n)), .sl (L [10])]) ?_ fp Try.call115
      refine mvd ?_
      refine bie (.i .u8 ((c - 48 : Nat) : Int)) ?_ ?_
      · exact ⟨trivial, by rw [u8_sub hc.1 hc.2]⟩
      refine cve ((c - 48 : Nat) : Int) (toU32 (by omega)) ?_ u8 u32
      refine bsl ?_ ?_ e32
      · simp [DV.flat, DV.cells, DV.leaf]
      refine fz (p := .t 26) ?_
      refine bsl ?_ ?_ e2
      · simp [DV.flat, DV.cells, DV.leaf]
      refine fz (p := .t 27) ?_
      refine cl (xs := [.sl (LL [pd, [c - 48]])]) ?_ fs Try.call74
      refine asd ?_
      refine .nil ?_
      show AW _ _ _ _ _ _
      refine .region ?_
      refine ad ((i + 1 : Nat) : Int) ?_ ?_
      · omega
      refine mvd ?_
      refine rn ?_
      refine .gh (Gh.keep [0, 2, 3, 4, 8, 9, 10] rfl) ?_
      refine ih (i + 1, n * 10 + (c - 48)) ⟨by dsimp only; omega, ?_, ?_⟩ (by dsimp only; omega)
      · dsimp only
        rw [h2, pv, if_pos hc]
      · dsimp only
        rw [Nat.pow_succ]; omega
    · rw [decide_eq_false (show ¬ (i : Int) < ((B bs).length : Nat) by rw [B_length]; omega)]
      refine cndf ?_
      refine .gh (Gh.keep [0, 4] rfl) ?_
      refine .exit ?_
      rw [List.drop_eq_nil_of_le (by omega)] at h2
      exact ⟨rfl, n, h2, rfl⟩
  rintro _ _ ⟨rfl, n, hn, rfl⟩
  refine .seq ?_
  refine .region ?_
  refine mvd ?_
  refine mvd ?_
  refine seq_ ?_
  refine asd ?_
  refine asd ?_
  refine rn ?_
  refine .ret ?_
  have e1 : parN (byts s) = n := by unfold parN; rw [hn]; rfl
  have e2 : parOK (byts s) = !(byts s).isEmpty := by unfold parOK; rw [hn]; rfl
  refine ⟨by decide, ?_, rfl, rfl⟩
  rw [e1, e2, ← hemp]; rfl
theorem refParse_fn {s : ByteArray} (hl : s.size ≤ 5000) : Fn Try.prog 75 [.s s] (.tup [.d (.sl (L (digs (parN (byts s))))), .d (.b (parOK (byts s)))]) := by
  have hbl := byts_length s
  have hb256 := byts_lt s
  refine Fn.of (rs := [.tmp 2, .tmp 3]) (nt := 36) Try.func75 rfl rfl rfl (by simp) rfl ?_
  refine .seq ?_
  refine .region ?_
  refine asn ?_
  refine asd ?_
  refine rn ?_
  refine .seq ?_
  refine .region ?_
  refine asn ?_
  refine rn ?_
  refine .mid (fun e H' => H' = [] ∧ ∃ n, pv (byts s) 0 = some n ∧ e = [(0, .d (.s s)), (4, .d (.sl (L (digs n))))]) ?_ ?_
  · refine .seq ?_
    refine .region ?_
    refine asd ?_
    refine rn ?_
    refine .block ?_
    refine .gh (Gh.nlD (t := 4) rfl) ?_
    refine .loop (.gh (Gh.keep [0, 2, 3, 4, 5] rfl) ?_)
    refine AL.cast (env' := [(0, .d (.s s)), (2, .nl), (3, .d (.b false)), (4, .d (.sl (L (digs 0)))), (5, .d (.i .i64 ((0 : Nat) : Int)))]) (by rw [digs_zero]; rfl) ?_
    refine AL.ind (σ := Nat × Nat) (m := fun p => s.size - p.1) (e := fun p => [(0, .d (.s s)), (2, .nl), (3, .d (.b false)), (4, .d (.sl (L (digs p.2)))), (5, .d (.i .i64 (p.1 : Int)))]) (h := fun _ => [])
      (I := fun p => p.1 ≤ s.size ∧ pv (byts s) 0 = pv ((byts s).drop p.1) p.2 ∧ p.2 < 10 ^ p.1) ?_ (0, 0) ⟨by simp, by simp, by simp⟩
    rintro ⟨i, n⟩ ⟨h1, h2, h3⟩ ih
    dsimp only at h1 h2 h3 ih ⊢
    refine .seq ?_
    refine .seq ?_
    refine .region ?_
    refine mvd ?_
    refine mvd ?_
    refine lns ?_ st
    refine bi ?_
    refine rn ?_
    by_cases hi : i < s.size
    · rw [decide_eq_true (show (i : Int) < (s.size : Nat) by omega)]
      have hx : (byts s)[i]? = some (byts s)[i] := List.getElem?_eq_getElem (by omega)
      rw [drop_at (by omega)] at h2
      generalize (byts s)[i] = c at *
      have hc256 := hb256 c (List.mem_of_getElem? hx)
      refine cndt ?_
      refine .skip ?_
      show AW _ _ _ _ _ _
      refine .gh (Gh.keep [0, 2, 3, 4, 5] rfl) ?_
      refine .seq ?_
      refine .block ?_
      refine .mid (fun e H' => H' = [] ∧ (48 ≤ c ∧ c ≤ 57) ∧ e = [(0, .d (.s s)), (2, .nl), (3, .d (.b false)), (4, .d (.sl (L (digs n)))), (5, .d (.i .i64 (i : Int)))]) ?_ ?_
      · have bad : ¬ (48 ≤ c ∧ c ≤ 57) → parN (byts s) = 0 ∧ parOK (byts s) = false := fun h => by
          have : pv (byts s) 0 = none := by rw [h2, pv, if_neg h]
          unfold parN parOK; rw [this]; exact ⟨rfl, rfl⟩
        refine .seq ?_
        refine .region ?_
        refine mvd ?_
        refine mvd ?_
        refine idb i c rfl hx ?_ st
        refine bi ?_
        refine mvd ?_
        by_cases hc1 : c < 48
        · rw [decide_eq_true (show (c : Int) < 48 by omega)]
          obtain ⟨b1, b2⟩ := bad (by omega)
          refine gf ?_
          refine gf ?_
          refine gf ?_
          refine gf ?_
          refine pkd ?_
          refine rn ?_
          refine cndt ?_
          refine .seq ?_
          refine .region ?_
          refine asn ?_
          refine asd ?_
          refine rn ?_
          refine .gh (Gh.nlD (t := 2) rfl) ?_
          refine .ret ?_
          exact ⟨by decide, by rw [b1, b2, digs_zero]; rfl, rfl, rfl⟩
        · rw [decide_eq_false (show ¬ (c : Int) < 48 by omega)]
          refine mvd ?_
          refine mvd ?_
          refine idb i c rfl hx ?_ st
          refine bi ?_
          refine pkd ?_
          refine rn ?_
          by_cases hc2 : 57 < c
          · rw [decide_eq_true (show (57 : Int) < (c : Int) by omega)]
            obtain ⟨b1, b2⟩ := bad (by omega)
            refine cndt ?_
            refine .seq ?_
            refine .region ?_
            refine asn ?_
            refine asd ?_
            refine rn ?_
            refine .gh (Gh.nlD (t := 2) rfl) ?_
            refine .ret ?_
            exact ⟨by decide, by rw [b1, b2, digs_zero]; rfl, rfl, rfl⟩
          · rw [decide_eq_false (show ¬ (57 : Int) < (c : Int) by omega)]
            refine cndf ?_
            refine .gh (Gh.keep [0, 2, 3, 4, 5] rfl) ?_
            refine .skip ?_
            exact ⟨rfl, by omega, rfl⟩
      rintro _ _ ⟨rfl, hc, rfl⟩
      have hnl : (digs n).length ≤ 5000 := Nat.le_trans (digs_len (Nat.lt_of_lt_of_le h3 (pow10_le i))) (by omega)
      have hv10 : val [10] = 10 := by simp [val]
      have hpl : (digs (n * 10)).length ≤ 5001 := Nat.le_trans (digs_len (k := i + 1) (by
        refine Nat.lt_of_lt_of_le ?_ (pow10_le (i + 1))
        rw [Nat.pow_succ]; omega)) (by omega)
      have fp := Mul_fn (a := digs n) (b := [10]) (digs_ok n) (by simp [Ok]) (by omega) (by simp)
      rw [val_digs, hv10] at fp
      have fo := refOf_fn (n := c - 48) (by omega)
      have fs := Add_fn (a := digs (n * 10)) (b := digs (c - 48)) (digs_ok _) (digs_ok _) (by omega) (Nat.le_trans (digs_len (k := 1) (by omega)) (by decide))
      rw [val_digs, val_digs] at fs
      have hsz10 : ∀ d ∈ L [10], d.flat = true ∧ d.cells.length = 1 := by
        intro d hd
        simp only [L, List.map_cons, List.map_nil, List.mem_cons, List.not_mem_nil, or_false] at hd
        subst hd; exact ⟨rfl, rfl⟩
      have hu64 : IntKind.u64.wrap ((c - 48 : Nat) : Int) = ((c - 48 : Nat) : Int) := toU64 (by omega)
      refine .drawn 10 mixed (by kernel_rfl) ?_
      refine dv vmvd ?_
      refine dv (v := .d (.sl (L [10]))) (vbsl hsz10 e32).deep ?_
      refine dv (v := .d (.sl (L (digs (n * 10))))) (vcl (xs := [.sl (L (digs n)), .sl (L [10])]) (r := .own 65 (L (digs (n * 10)))) fp Try.call76).deep ?_
      refine dv vmvd ?_
      refine dv vmvd ?_
      refine dv (vids i c rfl hx st) ?_
      refine dv (vbie (.i .u8 ((c - 48 : Nat) : Int)) ?_) ?_
      · exact ⟨trivial, by rw [u8_sub hc.1 hc.2]⟩
      refine dv (vcve ((c - 48 : Nat) : Int) hu64 u8 u64) ?_
      refine dv (v := .d (.sl (L (digs (c - 48))))) (vcl (xs := [.i .u64 ((c - 48 : Nat) : Int)]) (r := .own 65 (L (digs (c - 48)))) fo Try.call85).deep ?_
      refine dv (v := .d (.sl (L (digs (n * 10 + (c - 48)))))) (vcl (xs := [.sl (L (digs (n * 10))), .sl (L (digs (c - 48)))]) (r := .own 65 (L (digs (n * 10 + (c - 48))))) fs Try.call77).deep ?_
      refine dz ?_
      refine asd ?_
      refine .nil ?_
      show AW _ _ _ _ _ _
      refine .gh (Gh.keep [0, 2, 3, 4, 5] rfl) ?_
      refine .region ?_
      refine mvd ?_
      refine ad ((i + 1 : Nat) : Int) ?_ ?_
      · omega
      refine asd ?_
      refine rn ?_
      refine .gh (Gh.keep [0, 2, 3, 4, 5] rfl) ?_
      refine ih (i + 1, n * 10 + (c - 48)) ⟨by dsimp only; omega, ?_, ?_⟩ (by dsimp only; omega)
      · dsimp only
        rw [h2, pv, if_pos hc]
      · dsimp only
        rw [Nat.pow_succ]; omega
    · rw [decide_eq_false (show ¬ (i : Int) < (s.size : Nat) by omega)]
      refine cndf ?_
      refine .gh (Gh.keep [0, 4] rfl) ?_
      refine .exit ?_
      rw [List.drop_eq_nil_of_le (by omega)] at h2
      exact ⟨rfl, n, h2, rfl⟩
  rintro _ _ ⟨rfl, n, hn, rfl⟩
  refine .seq ?_
  refine .region ?_
  refine mvd ?_
  refine mvd ?_
  refine lns ?_ st
  refine bi ?_
  refine asd ?_
  refine asd ?_
  refine rn ?_
  refine .ret ?_
  have e1 : parN (byts s) = n := by unfold parN; rw [hn]; rfl
  have e2 : parOK (byts s) = decide ((0 : Int) < (s.size : Nat)) := by
    unfold parOK
    rw [hn]
    cases hb : byts s with
    | nil => rw [hb] at hbl; simp at hbl; rw [← hbl]; rfl
    | cons x r => rw [hb] at hbl; simp at hbl; rw [decide_eq_true (by omega)]; rfl
  refine ⟨by decide, ?_, rfl, rfl⟩
  rw [e1, e2]; rfl
end Go.FL
/-
  glyphref01.Print.
-/
namespace Go.FL
open Go Go.Proofs

theorem bstr_append (a b : List Nat) : bstr a ++ bstr b = bstr (a ++ b) := by
  apply ByteArray.ext
  simp [bstr, ByteArray.data_append]
theorem bstr_size (a : List Nat) : (bstr a).size = a.length := by
  show (bstr a).data.size = _
  simp [bstr]
theorem refPrint_fn {a : List Nat} (h : Ok a) (hl : a.length ≤ 100000) : Fn Try.prog 79 [.sl (L a)] (.d (.s (bstr (decT (val a))))) := by
  have hNl := val_lt h
  have hdl : (decR (val a)).length ≤ 10 * a.length := decR_len (Nat.lt_of_lt_of_le hNl (by
    rw [Nat.pow_mul]; exact Nat.pow_le_pow_left (by decide) _))
  refine Fn.of (rs := [.tmp 2]) (nt := 41) Try.func79 rfl rfl rfl (by simp) rfl ?_
  refine .seq ?_
  refine .region ?_
  refine asd ?_
  refine rn ?_
  refine .seq ?_
  refine .region ?_
  refine asd ?_
  refine rn ?_
  refine .seq ?_
  refine .region ?_
  refine bsl ?_ ?_ e32
  · simp [DV.flat, DV.cells, DV.leaf]
  refine aso ?_
  refine rn ?_
  refine .mid (fun e H' => H' = [] ∧ e = [(3, .d (.s (bstr (decR (val a)).reverse)))]) ?_ ?_
  · refine .seq ?_
    refine .region ?_
    refine mvd ?_
    refine cl (xs := [.sl (L a)]) ?_ (refTrim_fn h (by omega)) Try.call61
    refine aso ?_
    refine rn ?_
    refine .block ?_
    refine .gh (Gh.frz (p := .t 4) rfl (fun _ _ h => by cases h)) ?_
    refine .gh (Gh.frz (p := .t 5) rfl (fun _ _ h => by cases h)) ?_
    refine .loop (.gh (Gh.keep [3, 4, 5] rfl) ?_)
    refine AL.ind (σ := List Nat × Nat) (m := fun s => s.2) (e := fun s => [(3, .d (.s (bstr s.1.reverse))), (4, .d (.sl (L [10]))), (5, .d (.sl (L (digs s.2))))]) (h := fun _ => [])
      (I := fun s => decR (val a) = s.1 ++ decR s.2 ∧ s.2 ≤ val a) ?_ ([], val a) ⟨by simp, Nat.le_refl _⟩
    rintro ⟨ds, m⟩ ⟨h1, h2⟩ ih
    dsimp only at h1 h2 ih ⊢
    refine .seq ?_
    refine .seq ?_
    refine .region ?_
    refine mvd ?_
    refine ln ?_ (L_sz _) l32
    refine bi ?_
    refine rn ?_
    by_cases hm : m = 0
    · subst hm
      rw [digs_zero]
      refine cndf ?_
      refine .gh (Gh.keep [3] rfl) ?_
      refine .exit ?_
      refine ⟨rfl, ?_⟩
      rw [h1, decR_zero, List.append_nil]; rfl
    · have hdn := digs_ne (show 0 < m by omega)
      rw [decide_eq_true (show (0:Int) < ((L (digs m)).length : Nat) by rw [L_length]; omega)]
      have hml : (digs m).length ≤ 100000 := Nat.le_trans (digs_len (Nat.lt_of_le_of_lt h2 hNl)) hl
      have fd := refDivMod_fn (a := digs m) (b := [10]) (digs_ok m) (by simp [Ok]) hml (by simp)
      have hv10 : val [10] = 10 := by simp [val]
      rw [val_digs, hv10, remN, if_neg (by decide)] at fd
      have hdec := decR_pos hm
      have hdsl : ds.length ≤ 1000000 := by rw [h1] at hdl; simp at hdl; omega
      have hr : m % 10 < 10 := Nat.mod_lt _ (by decide)
      have hqm : m / 10 < m := by omega
      refine cndt ?_
      refine .skip ?_
      show AW _ _ _ _ _ _
      refine .block ?_
      refine .seq ?_
      refine .region ?_
      refine mvd ?_
      refine mvd ?_
      refine cl (xs := [.sl (L (digs m)), .sl (L [10])]) ?_ fd Try.call63
      refine mvt ?_
      refine ex ?_
      refine ex ?_
      refine ex ?_
      refine asd ?_
      refine asd ?_
      refine asd ?_
      refine rn ?_
      refine .gh (Gh.keep [3, 4, 5, 6, 7] rfl) ?_
      generalize m % 10 = r at *
      generalize m / 10 = q at *
      refine .seq ?_
      refine .region ?_
      refine asd ?_
      refine rn ?_
      refine .mid (fun e H' => H' = [] ∧ e = [(3, .d (.s (bstr ds.reverse))), (4, .d (.sl (L [10]))), (6, .d (.sl (L (digs q)))), (9, .d (.i .i64 (r : Int)))]) ?_ ?_
      · refine .seq ?_
        refine .region ?_
        refine mvd ?_
        refine ln ?_ (L_sz _) l32
        refine bi ?_
        refine rn ?_
        by_cases hr0 : r = 0
        · subst hr0
          rw [digs_zero]
          refine cndf ?_
          refine .gh (Gh.keep [3, 4, 6, 9] rfl) ?_
          refine .skip ?_
          exact ⟨rfl, rfl⟩
        · rw [one_limb (n := r) (by omega) (by omega)]
          refine cndt ?_
          refine .region ?_
          refine mvd ?_
          refine ix 0 ?_ rfl (L_at rfl) rfl s32
          refine ldp ?_ a32
          refine cve (r : Int) (wraps_i64 _ (by omega) (by omega)) ?_ u32 i64
          refine asd ?_
          refine RL.gh (Gh.keep [3, 4, 6, 9] rfl) ?_
          refine .nil ?_
          exact ⟨rfl, rfl⟩
      rintro _ _ ⟨rfl, rfl⟩
      refine .seq ?_
      refine .region ?_
      refine mvd ?_
      refine ad ((48 + r : Nat) : Int) ?_ ?_
      · omega
      refine cve ((48 + r : Nat) : Int) (wrapU8 (by omega)) ?_ i64 u8
      refine bsl ?_ ?_ e8
      · simp [DV.flat, DV.cells, DV.leaf]
      refine cvs (ns := [48 + r]) q8 u8 st (by simp) ?_
      refine mvd ?_
      refine sad ?_ ?_
      · rw [bstr_size, bstr_size]; simp; omega
      rw [bstr_append]
      refine asd ?_
      refine rn ?_
      refine .region ?_
      refine mvd ?_
      refine asd ?_
      refine .nil ?_
      refine AL.gh (Gh.keep [3, 4, 5] rfl) ?_
      have := ih (ds ++ [48 + r], q) ⟨by dsimp only; rw [h1, hdec]; simp, by dsimp only; omega⟩ hqm
      dsimp only at this
      rw [List.reverse_append] at this
      exact this
  rintro _ _ ⟨rfl, rfl⟩
  refine .seq ?_
  refine .seq ?_
  refine .region ?_
  refine mvd ?_
  refine seq_ ?_
  refine rn ?_
  by_cases hN : val a = 0
  · rw [hN, decR_zero]
    refine cndt ?_
    refine .seq ?_
    refine .region ?_
    refine asd ?_
    refine rn ?_
    refine .ret ?_
    exact ⟨rfl, rfl⟩
  · have hpos := List.length_pos_iff.2 (decR_ne hN)
    have hne : ¬ bstr (decR (val a)).reverse = { data := #[] } := fun he => by
      have := congrArg ByteArray.size he
      rw [bstr_size, List.length_reverse] at this
      have h0 : (ByteArray.mk #[]).size = 0 := rfl
      omega
    rw [if_pos rfl, decide_eq_false hne]
    refine cndf ?_
    refine .skip ?_
    show AW _ _ _ _ _ _
    refine .seq ?_
    refine .region ?_
    refine mvd ?_
    refine asd ?_
    refine rn ?_
    refine .ret ?_
    exact ⟨by unfold decT; rw [if_neg hN]; rfl, rfl⟩
end Go.FL
/-
  GP, 3: the contracts of numbers that were proved by hand, in the printed form.
-/
namespace Go.FL
open Go Go.Proofs

def okL (k : Nat) (a : List Nat) : Bool := a.all (fun x => decide (x < 4294967296)) && decide (a.length ≤ k)
theorem okL_iff {k : Nat} {a : List Nat} : okL k a = true ↔ Ok a ∧ a.length ≤ k := by simp [okL, Ok]
theorem okL_all {k : Nat} {ls : List (List Nat)} (h : ls.all (okL k) = true) : (∀ a ∈ ls, Ok a) ∧ ∀ a ∈ ls, a.length ≤ k :=
  ⟨fun a ha => (okL_iff.1 (List.all_eq_true.1 h a ha)).1, fun a ha => (okL_iff.1 (List.all_eq_true.1 h a ha)).2⟩
def okRB (r : RT) : Bool := okL 35184372087808 r.2.1 && okL 35184372087808 r.2.2
theorem okRB_iff {r : RT} : okRB r = true ↔ okR r := by
  simp only [okRB, Bool.and_eq_true, okL_iff, okR]
  exact ⟨fun ⟨⟨a, b⟩, c, d⟩ => ⟨a, c, b, d⟩, fun ⟨a, c, b, d⟩ => ⟨⟨a, b⟩, c, d⟩⟩
theorem okRB_all {rs : List RT} (h : rs.all okRB = true) : ∀ r ∈ rs, okR r := fun r hr => okRB_iff.1 (List.all_eq_true.1 h r hr)
abbrev qR (q : Q3) : RT := (q.1, digs q.2.1, digs q.2.2)
def resQ : QE → RT × Int
  | .error e => ((false, [], []), e)
  | .ok q => (qR q, 0)
theorem resQ_D (x : QE) : (resD x).map AV.d = [AV.d (.ag [.b (resQ x).1.1, .sl (L (resQ x).1.2.1), .sl (L (resQ x).1.2.2)]), .d (.i .i64 (resQ x).2)] := by cases x <;> rfl
def nProduct (ls : List (List Nat)) : Option (List Nat) := if (ls.all (okL 40000) && decide (ls.length ≤ 10)) = true then some (digs (prodF ls 1)) else none
theorem nProduct_ok {ls : List (List Nat)} {r : List Nat} (h : nProduct ls = some r) : Fn Try.prog 73 [.sl (LL ls)] (.d (.sl (L r))) := by
  obtain ⟨hc, h⟩ := ite_n h
  cases h
  rw [Bool.and_eq_true, decide_eq_true_eq] at hc
  obtain ⟨h1, h2⟩ := okL_all hc.1
  exact prods_fn h1 h2 hc.2 (by decide)

def nSum (ls : List (List Nat)) : Option (List Nat) := if (ls.all (okL 100000) && decide (ls.length ≤ 1000)) = true then some (digs (ls.map val).sum) else none
theorem nSum_ok {ls : List (List Nat)} {r : List Nat} (h : nSum ls = some r) : Fn Try.prog 74 [.sl (LL ls)] (.d (.sl (L r))) := by
  obtain ⟨hc, h⟩ := ite_n h
  cases h
  rw [Bool.and_eq_true, decide_eq_true_eq] at hc
  obtain ⟨h1, h2⟩ := okL_all hc.1
  exact sum_fn h1 h2 hc.2 (by decide)

def nPrint (a : List Nat) : Option (ByteArray) := if okL 1048576 a = true then some (bstr (decT (val a))) else none
theorem nPrint_ok {a : List Nat} {r : ByteArray} (h : nPrint a = some r) : Fn Try.prog 78 [.sl (L a)] (.d (.s r)) := by
  obtain ⟨hc, h⟩ := ite_n h
  cases h
  obtain ⟨h1, h2⟩ := okL_iff.1 hc
  exact Print_fn h1 (by omega)

def nParse (s : ByteArray) : Option (List Nat × Bool) := if s.size ≤ 5000 then some ((digs (parN (byts s)), parOK (byts s))) else none
theorem nParse_ok {s : ByteArray} {r : List Nat × Bool} (h : nParse s = some r) : Fn Try.prog 72 [.s s] (.tup [.d (.sl (L r.1)), .d (.b r.2)]) := by
  obtain ⟨hc, h⟩ := ite_n h
  cases h
  exact Parse_fn hc

def ratOne : Option (List Nat) := if True then some ([1]) else none
theorem ratOne_ok {r : List Nat} (h : ratOne = some r) : Fn Try.prog 66 [] (.own 65 (L r)) := by
  obtain ⟨hc, h⟩ := ite_n h
  cases h
  exact one_fn

def ref2One : Option (List Nat) := if True then some ([1]) else none
theorem ref2One_ok {r : List Nat} (h : ref2One = some r) : Fn Try.prog 69 [] (.own 65 (L r)) := by
  obtain ⟨hc, h⟩ := ite_n h
  cases h
  exact refOne_fn

def sEqualL (a : List Nat) (b : List Nat) : Option (Bool) := if (okL 1048576 a && okL 35184372087808 b) = true then some (decide (a = b)) else none
theorem sEqualL_ok {a : List Nat} {b : List Nat} {r : Bool} (h : sEqualL a b = some r) : Fn Try.prog 64 [.sl (L a), .sl (L b)] (.d (.b r)) := by
  obtain ⟨hc, h⟩ := ite_n h
  cases h
  simp only [Bool.and_eq_true, okL_iff] at hc
  exact Equal_fn a b hc.1.2 hc.1.1 hc.2.1

def ratRight (a : RT) : Option (Bool) := if okRB a = true then some (rightR a) else none
theorem ratRight_ok {a : RT} {r : Bool} (h : ratRight a = some r) : Fn Try.prog 19 [.ag [.b a.1, .sl (L a.2.1), .sl (L a.2.2)]] (.d (.b r)) := by
  obtain ⟨hc, h⟩ := ite_n h
  cases h
  obtain ⟨h1, h2, h3, h4⟩ := okRB_iff.1 hc
  exact RRight_fn h1 h2 h3 h4

def ref2Right (a : RT) : Option (Bool) := if okRB a = true then some (rightR a) else none
theorem ref2Right_ok {a : RT} {r : Bool} (h : ref2Right a = some r) : Fn Try.prog 20 [.ag [.b a.1, .sl (L a.2.1), .sl (L a.2.2)]] (.d (.b r)) := by
  obtain ⟨hc, h⟩ := ite_n h
  cases h
  obtain ⟨h1, h2, h3, h4⟩ := okRB_iff.1 hc
  exact refRR_fn h1 h2 h3 h4

def ratMake (b : Bool) (n : List Nat) (d : List Nat) : Option (RT × Int) := if (okL 100000 n && okL 100000 d) = true then some (resQ (makeE b (val n) (val d))) else none
theorem ratMake_ok {b : Bool} {n : List Nat} {d : List Nat} {r : RT × Int} (h : ratMake b n d = some r) : Fn Try.prog 16 [.b b, .sl (L n), .sl (L d)] (.tup [.d (.ag [.b r.1.1, .sl (L r.1.2.1), .sl (L r.1.2.2)]), .d (.i .i64 r.2)]) := by
  obtain ⟨hc, h⟩ := ite_n h
  cases h
  simp only [Bool.and_eq_true, okL_iff] at hc
  have := Make_fn (b := b) hc.1.1 hc.2.1 hc.1.2 hc.2.2 (by decide)
  rw [makeN_res, resQ_D] at this
  exact this

def ref2Make (b : Bool) (n : List Nat) (d : List Nat) : Option (RT × Int) := if (okL 100000 n && okL 100000 d) = true then some (resQ (makeE b (val n) (val d))) else none
theorem ref2Make_ok {b : Bool} {n : List Nat} {d : List Nat} {r : RT × Int} (h : ref2Make b n d = some r) : Fn Try.prog 17 [.b b, .sl (L n), .sl (L d)] (.tup [.d (.ag [.b r.1.1, .sl (L r.1.2.1), .sl (L r.1.2.2)]), .d (.i .i64 r.2)]) := by
  obtain ⟨hc, h⟩ := ite_n h
  cases h
  simp only [Bool.and_eq_true, okL_iff] at hc
  have := refMake_fn (b := b) hc.1.1 hc.2.1 hc.1.2 hc.2.2 (by decide)
  rw [makeN_res, resQ_D] at this
  exact this

def ref2Same (a : RT) (b : RT) : Option (Bool) := if (decide (a.2.1.length ≤ 35184372087808) && decide (a.2.2.length ≤ 35184372087808)) = true then some (decide (a = b)) else none
theorem ref2Same_ok {a : RT} {b : RT} {r : Bool} (h : ref2Same a b = some r) : Fn Try.prog 25 [.ag [.b a.1, .sl (L a.2.1), .sl (L a.2.2)], .ag [.b b.1, .sl (L b.2.1), .sl (L b.2.2)]] (.d (.b r)) := by
  obtain ⟨hc, h⟩ := ite_n h
  cases h
  simp only [Bool.and_eq_true, decide_eq_true_eq] at hc
  have := refSame_fn a.1 b.1 a.2.1 a.2.2 b.2.1 b.2.2 hc.1 hc.2
  rw [decide_eq_decide.2 (show (a.1 = b.1 ∧ a.2.1 = b.2.1 ∧ a.2.2 = b.2.2) ↔ a = b by
    obtain ⟨a1, a2, a3⟩ := a; obtain ⟨b1, b2, b3⟩ := b; simp)] at this
  exact this

def ratMul (rs : List RT) : Option (RT × Int) := if (rs.all okRB && decide (rs.length ≤ 1048576)) = true then some (resQ (mulE rs)) else none
theorem ratMul_ok {rs : List RT} {r : RT × Int} (h : ratMul rs = some r) : Fn Try.prog 35 [.sl (RVs rs)] (.tup [.d (.ag [.b r.1.1, .sl (L r.1.2.1), .sl (L r.1.2.2)]), .d (.i .i64 r.2)]) := by
  obtain ⟨hc, h⟩ := ite_n h
  cases h
  rw [Bool.and_eq_true, decide_eq_true_eq] at hc
  have := RMul_fn (okRB_all hc.1) hc.2
  rw [resQ_D] at this
  exact this

def r1Mul (a : List Nat) (b : List Nat) : Option (List Nat) := if (okL 400000 a && okL 400000 b) = true then some (digs (val a * val b)) else none
theorem r1Mul_ok {a : List Nat} {b : List Nat} {r : List Nat} (h : r1Mul a b = some r) : Fn Try.prog 76 [.sl (L a), .sl (L b)] (.own 65 (L r)) := by
  obtain ⟨hc, h⟩ := ite_n h
  cases h
  rw [Bool.and_eq_true] at hc
  obtain ⟨⟨h1, h2⟩, h3, h4⟩ := And.intro (okL_iff.1 hc.1) (okL_iff.1 hc.2)
  exact Mul_fn h1 h3 (by omega) (by omega)

def r1Add (a : List Nat) (b : List Nat) : Option (List Nat) := if (okL 500000 a && okL 500000 b) = true then some (digs (val a + val b)) else none
theorem r1Add_ok {a : List Nat} {b : List Nat} {r : List Nat} (h : r1Add a b = some r) : Fn Try.prog 77 [.sl (L a), .sl (L b)] (.own 65 (L r)) := by
  obtain ⟨hc, h⟩ := ite_n h
  cases h
  rw [Bool.and_eq_true] at hc
  obtain ⟨⟨h1, h2⟩, h3, h4⟩ := And.intro (okL_iff.1 hc.1) (okL_iff.1 hc.2)
  exact Add_fn h1 h3 (by omega) (by omega)

def r1Same (a : List Nat) (b : List Nat) : Option (Bool) := if a.length ≤ 35184372087808 then some (decide (a = b)) else none
theorem r1Same_ok {a : List Nat} {b : List Nat} {r : Bool} (h : r1Same a b = some r) : Fn Try.prog 80 [.sl (L a), .sl (L b)] (.d (.b r)) := by
  obtain ⟨hc, h⟩ := ite_n h
  cases h
  exact Same_fn a b hc

def r1Print (a : List Nat) : Option (ByteArray) := if okL 100000 a = true then some (bstr (decT (val a))) else none
theorem r1Print_ok {a : List Nat} {r : ByteArray} (h : r1Print a = some r) : Fn Try.prog 79 [.sl (L a)] (.d (.s r)) := by
  obtain ⟨hc, h⟩ := ite_n h
  cases h
  obtain ⟨h1, h2⟩ := okL_iff.1 hc
  exact refPrint_fn h1 (by omega)

def r1Parse (s : ByteArray) : Option (List Nat × Bool) := if s.size ≤ 5000 then some ((digs (parN (byts s)), parOK (byts s))) else none
theorem r1Parse_ok {s : ByteArray} {r : List Nat × Bool} (h : r1Parse s = some r) : Fn Try.prog 75 [.s s] (.tup [.d (.sl (L r.1)), .d (.b r.2)]) := by
  obtain ⟨hc, h⟩ := ite_n h
  cases h
  exact refParse_fn hc
end Go.FL
/-
  Arguments that are numbers, opened.
-/
namespace Go.FL
open Go Go.Proofs

section
variable {H : Type} {enc : TypeId × Value → H} {W : World}
theorem op_limbs0 {n : Nat} : OpF enc Try.prog W (n + 1) 22 (fun a : List Nat => [.sl (L a)]) (fun a => okL 35184372087808 a = true) := by
  refine (op_slice (α := Int) (F := fun z => [.i .u32 z]) (sz := 1) (fun z => .i .u32 z) (by kernel_rfl : Try.prog.underlying 22 = some (.slice 65)) (by kernel_rfl) (by decide) (fun _ => rfl) (op_int (by kernel_rfl))).map fun zs hz => ?_
  obtain ⟨a, h1, h2⟩ := as_limbs zs hz.1
  refine ⟨a, okL_iff.2 ⟨h1, ?_⟩, by rw [← h2]⟩
  have h3 := hz.2
  rw [show Try.prog.bytesOf 65 = 4 by kernel_rfl, show reachBytes = 140737488351232 by decide] at h3
  have := congrArg List.length h2
  rw [List.length_map, L_length] at this
  omega
theorem op_limbs (n : Nat) : OpF enc Try.prog W n 22 (fun a : List Nat => [.sl (L a)]) (fun a => okL 35184372087808 a = true) := op_limbs0.mono (Nat.le_succ n)
theorem op_rat (n : Nat) : OpF enc Try.prog W n 25 (fun r : RT => [.b r.1, .sl (L r.2.1), .sl (L r.2.2)]) (fun r => okRB r = true) := by
  refine OpF.mono (n := n + 1) ((op_struct3 (t := 25) (T0 := 4) (T1 := 22) (T2 := 22) (s0 := 1) (s1 := 1) (s2 := 1) (by kernel_rfl) (by kernel_rfl) (by kernel_rfl) (op_bool (by kernel_rfl)) (by kernel_rfl) (op_limbs n) (by kernel_rfl) (op_limbs n)).map fun r hr => ?_) (Nat.le_succ n)
  exact ⟨r, by rw [okRB, hr.2.1, hr.2.2]; rfl, rfl⟩
theorem op_str (n : Nat) : OpF enc Try.prog W n 9 (fun s : ByteArray => [.s s]) (fun s => s.size ≤ reachBytes) := op_string (by kernel_rfl)
end
end Go.FL
/-
  Plain facts of texts: characters and bytes.
-/
namespace Go.FL
open Go

theorem byts_app (s u : ByteArray) : byts (s ++ u) = byts s ++ byts u := by simp [byts, ByteArray.data_append]
theorem byts_inj {s u : ByteArray} (h : byts s = byts u) : s = u := by
  apply ByteArray.ext
  apply Array.toList_inj.1
  unfold byts at h
  exact (List.map_inj_right (fun _ _ => UInt8.toNat_inj.1)).1 h
theorem byts_extract (s : ByteArray) (i j : Nat) : byts (s.extract i j) = ((byts s).drop i).take (j - i) := by
  unfold byts
  rw [ByteArray.data_extract, Array.toList_extract, List.extract_eq_take_drop, List.map_take, List.map_drop]
theorem byts_getD (s : ByteArray) (i : Nat) : (s.data.toList.getD i 0).toNat = (byts s).getD i 0 := by
  simp only [byts, List.getD_eq_getElem?_getD, List.getElem?_map]
  cases s.data.toList[i]? <;> rfl
theorem dec_at (s : ByteArray) (pos : Nat) : Utf8.decode s pos = Lib.decodeN (s.size - pos) ((byts s).getD pos 0) ((byts s).getD (pos + 1) 0) ((byts s).getD (pos + 2) 0) ((byts s).getD (pos + 3) 0) := by
  rw [Lib.decode_N, byts_getD, byts_getD, byts_getD, byts_getD]; rfl
theorem byts_ge (s : ByteArray) {i : Nat} (h : i < s.size) : (byts s).getD i 0 < 256 := by
  have hl := byts_length s
  rw [List.getD_eq_getElem?_getD, List.getElem?_eq_getElem (by omega)]
  exact byts_lt s _ (List.getElem_mem _)
theorem dec_small {s : ByteArray} {pos : Nat} (hb : (byts s).getD pos 0 < 128) : rune s pos = ((byts s).getD pos 0 : Nat) ∧ rnext s pos = pos + 1 := by
  unfold rune rnext
  rw [dec_at]; unfold Lib.decodeN
  rw [if_pos hb]; exact ⟨rfl, rfl⟩
/-- A character beyond ASCII: itself, and all of its bytes. -/
theorem dec_great {s : ByteArray} {pos : Nat} (h : pos < s.size) (hb : 128 ≤ (byts s).getD pos 0) :
    128 ≤ rune s pos ∧ pos < rnext s pos ∧ rnext s pos ≤ pos + 4 ∧ rnext s pos ≤ s.size ∧ ∀ j, pos ≤ j → j < rnext s pos → 128 ≤ (byts s).getD j 0 := by
  unfold rune rnext
  rw [dec_at]
  have h256 := byts_ge s h
  have hx : ∀ j, pos + j < s.size → (byts s).getD (pos + j) 0 < 256 := fun j hj => byts_ge s hj
  generalize hb0 : (byts s).getD pos 0 = b0 at *
  generalize hb1 : (byts s).getD (pos + 1) 0 = b1 at *
  generalize hb2 : (byts s).getD (pos + 2) 0 = b2 at *
  generalize hb3 : (byts s).getD (pos + 3) 0 = b3 at *
  have all : ∀ w, w ≤ 4 → (1 < w → 128 ≤ b1) → (2 < w → 128 ≤ b2) → (3 < w → 128 ≤ b3) → ∀ j, pos ≤ j → j < pos + w → 128 ≤ (byts s).getD j 0 := by
    intro w hw h1 h2 h3 j hj1 hj2
    obtain ⟨k, rfl⟩ : ∃ k, j = pos + k := ⟨j - pos, by omega⟩
    match k, hj2 with
    | 0, _ => rw [Nat.add_zero, hb0]; exact hb
    | 1, _ => rw [hb1]; exact h1 (by omega)
    | 2, _ => rw [hb2]; exact h2 (by omega)
    | 3, _ => rw [hb3]; exact h3 (by omega)
    | k + 4, _ => omega
  unfold Lib.decodeN
  rw [if_neg (by omega)]
  split
  · rename_i c
    split
    · exact ⟨by omega, by simp, by simp, by simp only; omega, all 2 (by omega) (by omega) (by omega) (by omega)⟩
    · exact ⟨by simp, by simp, by simp, by simp only; omega, all 1 (by omega) (by omega) (by omega) (by omega)⟩
  · split
    · split
      · exact ⟨by omega, by simp, by simp, by simp only; omega, all 3 (by omega) (by omega) (by omega) (by omega)⟩
      · exact ⟨by simp, by simp, by simp, by simp only; omega, all 1 (by omega) (by omega) (by omega) (by omega)⟩
    · split
      · split
        · exact ⟨by omega, by simp, by simp, by simp only; omega, all 4 (by omega) (by omega) (by omega) (by omega)⟩
        · exact ⟨by simp, by simp, by simp, by simp only; omega, all 1 (by omega) (by omega) (by omega) (by omega)⟩
      · exact ⟨by simp, by simp, by simp, by simp only; omega, all 1 (by omega) (by omega) (by omega) (by omega)⟩
/-- When a character of two bytes is the one of a given number. -/
theorem dec_two {s : ByteArray} {pos : Nat} (h : pos < s.size) {c : Nat} (hc1 : 128 ≤ c) (hc2 : c < 2048) :
    rune s pos = (c : Int) ↔ (pos + 1 < s.size ∧ (byts s).getD pos 0 = 192 + c / 64 ∧ (byts s).getD (pos + 1) 0 = 128 + c % 64) := by
  unfold rune
  rw [dec_at]
  have h0 := byts_ge s h
  have h1 : pos + 1 < s.size → (byts s).getD (pos + 1) 0 < 256 := fun hj => byts_ge s hj
  generalize (byts s).getD pos 0 = b0 at *
  generalize (byts s).getD (pos + 1) 0 = b1 at *
  generalize (byts s).getD (pos + 2) 0 = b2 at *
  generalize (byts s).getD (pos + 3) 0 = b3 at *
  unfold Lib.decodeN
  split
  · constructor
    · intro h; simp only at h; omega
    · rintro ⟨_, h, _⟩; simp only; omega
  · split
    · rename_i c1
      split
      · constructor
        · intro h; simp only at h; have := h1 (by omega); refine ⟨by omega, by omega, by omega⟩
        · rintro ⟨h2, h3, h4⟩; simp only; omega
      · constructor
        · intro h; simp only at h; omega
        · rintro ⟨h2, h3, h4⟩; exfalso; omega
    · rename_i c1
      constructor
      · intro h
        exfalso
        revert h
        split
        · split
          · simp only; omega
          · simp only; omega
        · split
          · split
            · simp only; omega
            · simp only; omega
          · simp only; omega
      · rintro ⟨h2, h3, h4⟩; exfalso; apply c1; omega
theorem enc_small {c : Nat} (h : c < 128) : byts (Utf8.encode (c : Int)) = [c] := by
  have hv : Utf8.valid (c : Int) = true := by simp [Utf8.valid]; omega
  unfold Utf8.encode
  rw [if_pos hv, Int.toNat_natCast]
  simp only
  rw [if_pos h]
  show [(UInt8.ofNat c).toNat] = [c]
  rw [UInt8.toNat_ofNat', Nat.mod_eq_of_lt (by omega)]
theorem enc_great {r : Int} (h : 128 ≤ r) : byts (Utf8.encode r) ≠ [] ∧ (byts (Utf8.encode r)).length ≤ 4 ∧ ∀ x ∈ byts (Utf8.encode r), 128 ≤ x := by
  have key : ∀ c : Nat, 128 ≤ c → c ≤ 1114111 →
      byts (if c < 128 then (⟨#[UInt8.ofNat c]⟩ : ByteArray) else if c < 2048 then ⟨#[UInt8.ofNat (192 + c / 64), UInt8.ofNat (128 + c % 64)]⟩ else if c < 65536 then ⟨#[UInt8.ofNat (224 + c / 4096), UInt8.ofNat (128 + c / 64 % 64), UInt8.ofNat (128 + c % 64)]⟩ else ⟨#[UInt8.ofNat (240 + c / 262144), UInt8.ofNat (128 + c / 4096 % 64), UInt8.ofNat (128 + c / 64 % 64), UInt8.ofNat (128 + c % 64)]⟩) ≠ [] ∧
      (byts (if c < 128 then (⟨#[UInt8.ofNat c]⟩ : ByteArray) else if c < 2048 then ⟨#[UInt8.ofNat (192 + c / 64), UInt8.ofNat (128 + c % 64)]⟩ else if c < 65536 then ⟨#[UInt8.ofNat (224 + c / 4096), UInt8.ofNat (128 + c / 64 % 64), UInt8.ofNat (128 + c % 64)]⟩ else ⟨#[UInt8.ofNat (240 + c / 262144), UInt8.ofNat (128 + c / 4096 % 64), UInt8.ofNat (128 + c / 64 % 64), UInt8.ofNat (128 + c % 64)]⟩)).length ≤ 4 ∧
      ∀ x ∈ byts (if c < 128 then (⟨#[UInt8.ofNat c]⟩ : ByteArray) else if c < 2048 then ⟨#[UInt8.ofNat (192 + c / 64), UInt8.ofNat (128 + c % 64)]⟩ else if c < 65536 then ⟨#[UInt8.ofNat (224 + c / 4096), UInt8.ofNat (128 + c / 64 % 64), UInt8.ofNat (128 + c % 64)]⟩ else ⟨#[UInt8.ofNat (240 + c / 262144), UInt8.ofNat (128 + c / 4096 % 64), UInt8.ofNat (128 + c / 64 % 64), UInt8.ofNat (128 + c % 64)]⟩), 128 ≤ x := by
    intro c h1 h2
    rw [if_neg (show ¬ c < 128 by omega)]
    split
    · simp [byts, UInt8.toNat_ofNat']; omega
    · split
      · simp [byts, UInt8.toNat_ofNat']; omega
      · simp [byts, UInt8.toNat_ofNat']; omega
  unfold Utf8.encode
  by_cases hv : Utf8.valid r = true
  · rw [if_pos hv]
    simp [Utf8.valid] at hv
    exact key r.toNat (by omega) (by omega)
  · rw [if_neg hv]
    exact key 65533 (by decide) (by decide)
end Go.FL
/-
  Plain laws, rat 1: right numbers are the rationals that fit.
-/
namespace Go.FL
open Go Go.Proofs

abbrev sg (b : Bool) (n : Nat) : Int := if b = true then -(n : Int) else n
def ofQ (p : Rat) : RT := (decide (p.num < 0), digs p.num.natAbs, digs p.den)
def small (n : Nat) : Prop := (digs n).length ≤ 32
instance (n : Nat) : Decidable (small n) := inferInstanceAs (Decidable (_ ≤ _))
def fits (p : Rat) : Prop := small p.num.natAbs ∧ small p.den
instance (p : Rat) : Decidable (fits p) := inferInstanceAs (Decidable (_ ∧ _))
abbrev bad (e : Int) : RT × Int := ((false, [], []), e)
def resR (p : Rat) : RT × Int := if fits p then (ofQ p, 0) else bad 8
theorem sg_natAbs (b : Bool) (n : Nat) : (sg b n).natAbs = n := by cases b <;> simp [sg]
theorem sg_neg (b : Bool) (n : Nat) : decide (sg b n < 0) = (b && decide (n ≠ 0)) := by
  cases b with
  | false => simp [sg]
  | true => simp only [sg, if_true, Bool.true_and]; apply decide_eq_decide.2; omega
theorem digs_inj {m n : Nat} (h : digs m = digs n) : m = n := by rw [← val_digs m, h, val_digs]
/-- A rational, as its parts. -/
abbrev q3 (p : Rat) : Q3 := (decide (p.num < 0), p.num.natAbs, p.den)
def lowR (p : Rat) : QE := if fits p then .ok (q3 p) else .error 8
theorem resQ_lowR (p : Rat) : resQ (lowR p) = resR p := by
  unfold lowR resR
  split <;> rfl
theorem lowE_rat {b : Bool} {n d : Nat} (hd : d ≠ 0) : lowE b n d = lowR (mkRat (sg b n) d) := by
  have hg : Nat.gcd n d ≠ 0 := fun h => hd (Nat.eq_zero_of_gcd_eq_zero_right h)
  have hnum : (mkRat (sg b n) d).num = sg b (n / Nat.gcd n d) := by
    rw [Rat.num_mkRat, if_neg hd, sg_natAbs, Nat.gcd_comm]
    cases b with
    | false => simp [sg]
    | true =>
      simp only [sg, if_true]
      rw [Int.neg_ediv_of_dvd (Int.natCast_dvd_natCast.2 (Nat.gcd_dvd_left n d))]
      simp
  have hden : (mkRat (sg b n) d).den = d / Nat.gcd n d := by
    rw [Rat.den_mkRat, if_neg hd, sg_natAbs, Nat.gcd_comm]
  have hd' : 32 < (digs (d / Nat.gcd n d)).length ↔ ¬ small (d / Nat.gcd n d) := by simp only [small]; omega
  have hn' : 32 < (digs (n / Nat.gcd n d)).length ↔ ¬ small (n / Nat.gcd n d) := by simp only [small]; omega
  have hf : fits (mkRat (sg b n) d) ↔ small (n / Nat.gcd n d) ∧ small (d / Nat.gcd n d) := by
    simp only [fits, hnum, hden, sg_natAbs]
  unfold lowE lowR
  rw [if_neg hg]
  by_cases h : small (n / Nat.gcd n d) ∧ small (d / Nat.gcd n d)
  · rw [if_neg (by rw [hn', hd']; intro h2; exact h2.elim (fun a => a h.1) (fun a => a h.2)), if_pos (hf.2 h)]
    simp only [q3, hnum, sg_natAbs, hden, sg_neg]
  · rw [if_pos (by rw [hn', hd']; by_cases h1 : small (n / Nat.gcd n d); exact .inr (fun h2 => h ⟨h1, h2⟩); exact .inl h1), if_neg (fun h2 => h (hf.1 h2))]
theorem right_iff {r : RT} : rightR r = true ↔ ∃ p, fits p ∧ r = ofQ p := by
  obtain ⟨b, n, d⟩ := r
  simp only [rightR, rightL, decide_eq_true_eq]
  constructor
  · rintro ⟨h1, h2, h3, h4, h5, h6, h7⟩
    have hd0 : val d ≠ 0 := fun h => h5 (by rw [← h2, h, digs_zero])
    refine ⟨⟨sg b (val n), val d, hd0, by rw [Nat.Coprime, sg_natAbs]; exact h7⟩, ⟨?_, ?_⟩, ?_⟩
    · show small (sg b (val n)).natAbs
      rw [sg_natAbs, small, h1]; exact h3
    · show small (val d)
      rw [small, h2]; exact h4
    · simp only [ofQ, sg_natAbs, h1, h2]
      rw [sg_neg]
      congr 1
      cases b with
      | false => rfl
      | true =>
        have : n ≠ [] := fun h => by have := h6 h; cases this
        have hn0 : val n ≠ 0 := fun h => this (by rw [← h1, h, digs_zero])
        simp [hn0]
  · rintro ⟨p, ⟨h1, h2⟩, h⟩
    simp only [ofQ, Prod.mk.injEq] at h
    obtain ⟨rfl, rfl, rfl⟩ := h
    refine ⟨by rw [val_digs], by rw [val_digs], h1, h2, ?_, ?_, ?_⟩
    · intro h
      have := digs_nil_iff.1 h
      exact p.den_nz this
    · intro h
      have := digs_nil_iff.1 h
      exact decide_eq_false (by omega)
    · rw [val_digs, val_digs]; exact p.reduced
theorem ofQ_right {p : Rat} (h : fits p) : rightR (ofQ p) = true := right_iff.2 ⟨p, h, rfl⟩
theorem okL_digs {k n : Nat} (h : (digs n).length ≤ k) : okL k (digs n) = true := okL_iff.2 ⟨digs_ok n, h⟩
theorem small_ok {k n : Nat} (h : small n) (hk : 32 ≤ k) : okL k (digs n) = true := okL_digs (Nat.le_trans h hk)
theorem ofQ_okRB {p : Rat} (h : fits p) : okRB (ofQ p) = true := by
  simp only [okRB, Bool.and_eq_true]
  exact ⟨small_ok h.1 (by decide), small_ok h.2 (by decide)⟩
/-- A number that comes as it may: not right, or a rational. -/
theorem right_cases {r : RT} : rightR r = false ∨ ∃ p, fits p ∧ r = ofQ p := by
  by_cases h : rightR r = true
  · exact .inr (right_iff.1 h)
  · exact .inl (by simpa using h)
theorem one_digs : digs 1 = [1] := one_limb (n := 1) (by decide) (by decide)
theorem resR_fits {p : Rat} (h : fits p) : resR p = (ofQ p, 0) := if_pos h
theorem resR_not {p : Rat} (h : ¬ fits p) : resR p = bad 8 := if_neg h
/-- What a number, as it comes, is worth. -/
abbrev valQ (q : Q3) : Rat := mkRat (sg q.1 q.2.1) q.2.2
theorem mkRat_eq {a c : Int} {b d : Nat} (hb : b ≠ 0) (hd : d ≠ 0) (h : a * d = c * b) : mkRat a b = mkRat c d := (Rat.mkRat_eq_iff hb hd).2 h
theorem timesN_rat {x y : Q3} (hx : x.2.2 ≠ 0) (hy : y.2.2 ≠ 0) : valQ (timesN x y) = valQ x * valQ y ∧ (timesN x y).2.2 ≠ 0 := by
  obtain ⟨b, n, d⟩ := x
  obtain ⟨c, m, e⟩ := y
  refine ⟨?_, Nat.mul_ne_zero hx hy⟩
  rw [show valQ (b, n, d) * valQ (c, m, e) = mkRat (sg b n * sg c m) (d * e) from Rat.mkRat_mul_mkRat _ _ _ _]
  have h : sg (b != c) (n * m) = sg b n * sg c m := by cases b <;> cases c <;> simp [sg, Int.neg_mul, Int.mul_neg]
  simp only [timesN, valQ, h]
theorem valQ_of (p : Rat) : valQ (decide (p.num < 0), p.num.natAbs, p.den) = p := by
  have : sg (decide (p.num < 0)) p.num.natAbs = p.num := by
    simp only [sg, decide_eq_true_eq]
    split <;> omega
  rw [valQ, this, Rat.mkRat_self]
theorem rq_of (p : Rat) : rq (ofQ p) = (decide (p.num < 0), p.num.natAbs, p.den) := by simp [rq, ofQ, val_digs]
end Go.FL
/-
  GP: rat: differences, quotients, rounding.
-/
namespace Go.FL
open Go Go.Proofs

end Go.FL
/-
  GP: rat: comparisons, residues, powers, texts.
-/
namespace Go.FL
open Go Go.Proofs

def rat_Print (a0 : RT) : Option (ByteArray) := ((ratRight a0).bind fun x1 => (if x1 = true then ((nPrint a0.2.1).bind fun x2 => (if a0.1 = true then ((sap? (⟨#[194, 175]⟩ : ByteArray) x2).bind fun x3 => (ratOne.bind fun x4 => ((sEqualL a0.2.2 x4).bind fun x5 => (if x5 = true then (some (x3)) else ((nPrint a0.2.2).bind fun x6 => ((sap? (⟨#[114]⟩ : ByteArray) x6).bind fun x7 => ((sap? x3 x7).bind fun x8 => (some (x8))))))))) else (ratOne.bind fun x9 => ((sEqualL a0.2.2 x9).bind fun x10 => (if x10 = true then (some (x2)) else ((nPrint a0.2.2).bind fun x11 => ((sap? (⟨#[114]⟩ : ByteArray) x11).bind fun x12 => ((sap? x2 x12).bind fun x13 => (some (x13)))))))))) else (some ((⟨#[]⟩ : ByteArray)))))
theorem rat_Print_ok {a0 : RT} {r : ByteArray} (h : rat_Print a0 = some r) :
    Fn Try.prog 23 [.ag [.b a0.1, .sl (L a0.2.1), .sl (L a0.2.2)]] (.d (.s r)) := by
  unfold rat_Print at h
  refine Fn.of (rs := [.tmp 2]) (nt := 26) Try.func23 rfl rfl rfl (by simp) rfl ?_
  refine .seq ?_
  refine .region ?_
  refine vk (vbx) ?_
  refine asd ?_
  refine rn ?_
  refine .gh (Gh.keep [1, 2] rfl) ?_
  refine .seq ?_
  refine .seq ?_
  refine .region ?_
  refine vk (vlda gA_R gS_R) ?_
  obtain ⟨x1, hx1, h⟩ := bnd h
  refine vk (vcl0 (ratRight_ok hx1) Try.call19) ?_
  refine vk (vnt) ?_
  refine rn ?_
  refine .gh (Gh.keep [1, 2, 6] rfl) ?_
  by_cases hc : x1 = true
  · replace h := ite_t hc h
    refine cnf (ntf hc) ?_
    refine .skip ?_
    show AW _ _ _ _ _ _
    refine .seq ?_
    refine .region ?_
    refine vk (vfa gF_R_1) ?_
    refine vk (vldp ga_L) ?_
    obtain ⟨x2, hx2, h⟩ := bnd h
    refine vk (vcl0 (nPrint_ok hx2) Try.call78) ?_
    refine asd ?_
    refine rn ?_
    refine .gh (Gh.keep [1, 2, 3] rfl) ?_
    refine .seq ?_
    refine .seq ?_
    refine .region ?_
    refine vk (vfa gF_R_0) ?_
    refine vk (vldp ga_bool) ?_
    refine rn ?_
    refine .gh (Gh.keep [1, 2, 3, 11] rfl) ?_
    by_cases hc : a0.1 = true
    · replace h := ite_t hc h
      refine cnt hc ?_
      refine .region ?_
      refine vk (vmvd) ?_
      obtain ⟨x3, hx3, h⟩ := bnd h
      refine vk (vsa hx3) ?_
      refine asd ?_
      refine rn ?_
      refine .gh (Gh.keep [1, 2, 3] rfl) ?_
      refine .seq ?_
      refine .seq ?_
      refine .drawn 5 mixed (by kernel_rfl) ?_
      refine dv (vfa gF_R_2) ?_
      refine dv (vldp ga_L) ?_
      obtain ⟨x4, hx4, h⟩ := bnd h
      refine dv ((vcl0 (ratOne_ok hx4) Try.call66).deep) ?_
      obtain ⟨x5, hx5, h⟩ := bnd h
      refine dv (vcl0 (sEqualL_ok hx5) Try.call64) ?_
      refine dv (vnt) ?_
      refine dz ?_
      refine rn ?_
      refine .gh (Gh.keep [1, 2, 3, 18] rfl) ?_
      by_cases hc : x5 = true
      · replace h := ite_t hc h
        refine cnf (ntf hc) ?_
        refine .skip ?_
        show AW _ _ _ _ _ _
        refine .seq ?_
        refine .region ?_
        refine vk (vmvd) ?_
        refine asd ?_
        refine rn ?_
        refine .gh (Gh.keep [2] rfl) ?_
        refine .ret ?_
        cases h
        exact ⟨rfl, rfl⟩
      replace h := ite_f hc h
      refine cnt (ntt (bf hc)) ?_
      refine .region ?_
      refine vk (vmvd) ?_
      refine vk (vfa gF_R_2) ?_
      refine vk (vldp ga_L) ?_
      obtain ⟨x6, hx6, h⟩ := bnd h
      refine vk (vcl0 (nPrint_ok hx6) Try.call78) ?_
      obtain ⟨x7, hx7, h⟩ := bnd h
      refine vk (vsa hx7) ?_
      obtain ⟨x8, hx8, h⟩ := bnd h
      refine vk (vsa hx8) ?_
      refine asd ?_
      refine rn ?_
      refine .gh (Gh.keep [2, 3] rfl) ?_
      refine .seq ?_
      refine .region ?_
      refine vk (vmvd) ?_
      refine asd ?_
      refine rn ?_
      refine .gh (Gh.keep [2] rfl) ?_
      refine .ret ?_
      cases h
      exact ⟨rfl, rfl⟩
    replace h := ite_f hc h
    refine cnf (bf hc) ?_
    refine .skip ?_
    show AW _ _ _ _ _ _
    refine .seq ?_
    refine .seq ?_
    refine .drawn 5 mixed (by kernel_rfl) ?_
    refine dv (vfa gF_R_2) ?_
    refine dv (vldp ga_L) ?_
    obtain ⟨x9, hx9, h⟩ := bnd h
    refine dv ((vcl0 (ratOne_ok hx9) Try.call66).deep) ?_
    obtain ⟨x10, hx10, h⟩ := bnd h
    refine dv (vcl0 (sEqualL_ok hx10) Try.call64) ?_
    refine dv (vnt) ?_
    refine dz ?_
    refine rn ?_
    refine .gh (Gh.keep [1, 2, 3, 18] rfl) ?_
    by_cases hc : x10 = true
    · replace h := ite_t hc h
      refine cnf (ntf hc) ?_
      refine .skip ?_
      show AW _ _ _ _ _ _
      refine .seq ?_
      refine .region ?_
      refine vk (vmvd) ?_
      refine asd ?_
      refine rn ?_
      refine .gh (Gh.keep [2] rfl) ?_
      refine .ret ?_
      cases h
      exact ⟨rfl, rfl⟩
    replace h := ite_f hc h
    refine cnt (ntt (bf hc)) ?_
    refine .region ?_
    refine vk (vmvd) ?_
    refine vk (vfa gF_R_2) ?_
    refine vk (vldp ga_L) ?_
    obtain ⟨x11, hx11, h⟩ := bnd h
    refine vk (vcl0 (nPrint_ok hx11) Try.call78) ?_
    obtain ⟨x12, hx12, h⟩ := bnd h
    refine vk (vsa hx12) ?_
    obtain ⟨x13, hx13, h⟩ := bnd h
    refine vk (vsa hx13) ?_
    refine asd ?_
    refine rn ?_
    refine .gh (Gh.keep [2, 3] rfl) ?_
    refine .seq ?_
    refine .region ?_
    refine vk (vmvd) ?_
    refine asd ?_
    refine rn ?_
    refine .gh (Gh.keep [2] rfl) ?_
    refine .ret ?_
    cases h
    exact ⟨rfl, rfl⟩
  replace h := ite_f hc h
  refine cnt (ntt (bf hc)) ?_
  refine .seq ?_
  refine .region ?_
  refine asd ?_
  refine rn ?_
  refine .gh (Gh.keep [1, 2] rfl) ?_
  refine .ret ?_
  cases h
  exact ⟨rfl, rfl⟩
end Go.FL
/-
  Plain laws, rat 2: sums, differences, products, quotients, as the program reckons them.
-/
namespace Go.FL
open Go Go.Proofs

theorem w64_eq {z : Int} (h1 : -9223372036854775808 ≤ z) (h2 : z ≤ 9223372036854775807) : w64 z = z := wrap64 h1 h2
theorem bind_eq {α β : Type} {x : Option α} {a : α} {f : α → Option β} {r : Option β} (h : x = some a) (h2 : f a = r) : x.bind f = r := by rw [h]; exact h2
theorem ratRight_eq {r : RT} (h : okRB r = true) : ratRight r = some (rightR r) := if_pos h
theorem ref2Right_eq {r : RT} (h : okRB r = true) : ref2Right r = some (rightR r) := if_pos h
theorem ratOne_eq : ratOne = some [1] := if_pos trivial
theorem ref2One_eq : ref2One = some [1] := if_pos trivial
theorem den_ne (p : Rat) : (q3 p).2.2 ≠ 0 := p.den_nz
end Go.FL
/-
  Plain laws, rat 3: sizes, negatives, rounding, signs, comparisons, sums of many.
-/
namespace Go.FL
open Go Go.Proofs

theorem digs_pos_iff {n : Nat} : (0 : Int) < ((List.length (digs n) : Nat) : Int) ↔ n ≠ 0 := by
  constructor
  · rintro h rfl; rw [digs_zero] at h; simp at h
  · intro h
    have : digs n ≠ [] := fun h2 => h (digs_nil_iff.1 h2)
    have := List.length_pos_iff.2 this
    omega
theorem equalL_eq {a b : List Nat} (ha : okL 1048576 a = true) (hb : okL 35184372087808 b = true) : sEqualL a b = some (decide (a = b)) := if_pos (by rw [ha, hb]; rfl)
end Go.FL
/-
  Plain laws, rat 4: comparisons; sums and products of many.
-/
namespace Go.FL
open Go Go.Proofs

/-! sums and products of many -/
def foldR (op : Rat → Rat → Rat) : Rat → List Rat → RT × Int
  | s, [] => (ofQ s, 0)
  | s, p :: ps => if fits (op s p) then foldR op (op s p) ps else bad 8
theorem foldE_q {op : Q3 → Q3 → Q3} {opR : Rat → Rat → Rat} (hop : ∀ x y : Q3, x.2.2 ≠ 0 → y.2.2 ≠ 0 → valQ (op x y) = opR (valQ x) (valQ y) ∧ (op x y).2.2 ≠ 0) : ∀ (l : List Rat) (s : Rat),
    resQ (foldE op (q3 s) (l.map ofQ)) = foldR opR s l
  | [], s => rfl
  | p :: l, s => by
    rw [List.map_cons, foldE, foldR, rq_of]
    obtain ⟨h1, h2⟩ := hop (q3 s) (q3 p) (den_ne s) (den_ne p)
    rw [show lowQ (op (q3 s) (q3 p)) = lowR (valQ (op (q3 s) (q3 p))) from lowE_rat h2, h1, valQ_of, valQ_of]
    by_cases h : fits (opR s p)
    · rw [show lowR (opR s p) = .ok (q3 (opR s p)) from if_pos h, if_pos h]
      exact foldE_q hop l _
    · rw [show lowR (opR s p) = .error 8 from if_neg h, if_neg h]
      rfl
theorem all_right {ps : List Rat} (h : ∀ p ∈ ps, fits p) : (ps.map ofQ).all rightR = true := by
  rw [List.all_map, List.all_eq_true]; intro p hp; exact ofQ_right (h p hp)
theorem all_ok {ps : List Rat} (h : ∀ p ∈ ps, fits p) : (ps.map ofQ).all okRB = true := by
  rw [List.all_map, List.all_eq_true]; intro p hp; exact ofQ_okRB (h p hp)
theorem q3_one : q3 1 = (false, 1, 1) := rfl
theorem mul_q {ps : List Rat} (h : ∀ p ∈ ps, fits p) (hl : ps.length ≤ 1048576) : ratMul (ps.map ofQ) = some (foldR (· * ·) 1 ps) := by
  have : ratMul (ps.map ofQ) = some (resQ (mulE (ps.map ofQ))) := if_pos (by rw [all_ok h, Bool.true_and]; exact decide_eq_true (by simpa using hl))
  rw [this, mulE, if_pos (all_right h), ← q3_one, foldE_q (opR := (· * ·)) fun x y => timesN_rat]
theorem mul2_q {p q : Rat} (hp : fits p) (hq : fits q) : ratMul [ofQ p, ofQ q] = some (resR (p * q)) := by
  have := mul_q (ps := [p, q]) (by simp [hp, hq]) (by simp)
  rw [show [p, q].map ofQ = [ofQ p, ofQ q] from rfl] at this
  rw [this]
  simp only [foldR, Rat.one_mul, if_pos hp, resR]
end Go.FL
/-
  GP: rat: numbers out of texts.
-/
namespace Go.FL
open Go Go.Proofs

def unicode_utf8_RuneCountInString_l0 (a0 : ByteArray) : Nat → Int → Nat → Option (Int)
  | 0, _, _ => none
  | k + 1, s1, s2 => (if s2 < ByteArray.size a0 then (unicode_utf8_RuneCountInString_l0 a0 k (w64 (s1 + 1)) (rnext a0 s2)) else (some (s1)))
def unicode_utf8_RuneCountInString (a0 : ByteArray) : Option (Int) := (unicode_utf8_RuneCountInString_l0 a0 FUEL 0 0)
theorem unicode_utf8_RuneCountInString_ok {a0 : ByteArray} {r : Int} (h : unicode_utf8_RuneCountInString a0 = some r) :
    Fn Try.prog 70 [.s a0] (.d (.i .i64 r)) := by
  unfold unicode_utf8_RuneCountInString at h
  refine Fn.of (rs := [.tmp 2]) (nt := 10) Try.func70 rfl rfl rfl (by simp) rfl ?_
  refine .seq ?_
  refine .region ?_
  refine asd ?_
  refine rn ?_
  refine .gh (Gh.keep [0, 2] rfl) ?_
  refine .seq ?_
  refine .seq ?_
  refine .region ?_
  refine vk (vmvd) ?_
  refine vk (vrng st) ?_
  refine rn ?_
  refine .gh (Gh.keep [2, 4] rfl) ?_
  refine .block ?_
  refine .loop (.gh (Gh.keep [2, 4] rfl) ?_)
  refine AL.ind (σ := Nat × Int × Nat) (m := fun p => p.1) (e := fun p => [(2, .d (.i .i64 p.2.1)), (4, .it a0 p.2.2)]) (h := fun p => []) (I := fun p => unicode_utf8_RuneCountInString_l0 a0 p.1 p.2.1 p.2.2 = some r) ?_ (FUEL, 0, 0) h
  rintro ⟨k, s1, s2⟩ h ih
  dsimp only at h ih ⊢
  rcases k with _ | k
  · rw [unicode_utf8_RuneCountInString_l0] at h; cases h
  rw [unicode_utf8_RuneCountInString_l0] at h
  refine .seq ?_
  refine .region ?_
  by_cases hc : s2 < ByteArray.size a0
  · replace h := ite_t hc h
    refine nxt ?_ hc
    refine vk (vex) ?_
    refine rn ?_
    refine .gh (Gh.keep [2, 4, 6] rfl) ?_
    refine .seq ?_
    refine cndt ?_
    refine .skip ?_
    show AW _ _ _ _ _ _
    refine .block ?_
    refine .region ?_
    refine vk (vmvd) ?_
    refine vk (vbi) ?_
    refine asd ?_
    refine .nil ?_
    refine AL.gh (Gh.keep [2, 4] rfl) ?_
    exact ih (k, (w64 (s1 + 1)), (rnext a0 s2)) h (Nat.lt_succ_self _)
  replace h := ite_f hc h
  refine nxe ?_ hc
  refine vk (vex) ?_
  refine rn ?_
  refine .gh (Gh.keep [2, 4, 6] rfl) ?_
  refine .seq ?_
  refine cndf ?_
  refine .exit ?_
  show AW _ _ _ _ _ _
  refine .seq ?_
  refine .region ?_
  refine vk (vmvd) ?_
  refine asd ?_
  refine rn ?_
  refine .gh (Gh.keep [2] rfl) ?_
  refine .ret ?_
  cases h
  exact ⟨rfl, rfl⟩

def rat_parts_l0 (a0 : ByteArray) : Nat → Bool → ByteArray → Int → ByteArray → Nat → Option (Bool × ByteArray × Int × ByteArray)
  | 0, _, _, _, _, _ => none
  | k + 1, s1, s2, s3, s4, s5 => (if s5 < ByteArray.size a0 then (if ((decide (((s5 : Nat) : Int) = 0)) && (decide ((rune a0 s5) = 175))) = true then (rat_parts_l0 a0 k true s2 s3 s4 (rnext a0 s5)) else (if ((decide (s3 = 0)) && ((decide ((rune a0 s5) = 46)) || (decide ((rune a0 s5) = 114)))) = true then (rat_parts_l0 a0 k s1 s2 (rune a0 s5) s4 (rnext a0 s5)) else (if s3 = 0 then ((sap? s2 (Utf8.encode (rune a0 s5))).bind fun x6 => (rat_parts_l0 a0 k s1 x6 s3 s4 (rnext a0 s5))) else ((sap? s4 (Utf8.encode (rune a0 s5))).bind fun x7 => (rat_parts_l0 a0 k s1 s2 s3 x7 (rnext a0 s5)))))) else (some (s1, s2, s3, s4)))
def rat_parts (a0 : ByteArray) : Option (Bool × ByteArray × Int × ByteArray) := (rat_parts_l0 a0 FUEL false (⟨#[]⟩ : ByteArray) 0 (⟨#[]⟩ : ByteArray) 0)
theorem rat_parts_ok {a0 : ByteArray} {r : Bool × ByteArray × Int × ByteArray} (h : rat_parts a0 = some r) :
    Fn Try.prog 71 [.s a0] (.tup [.d (.b r.1), .d (.s r.2.1), .d (.i .i32 r.2.2.1), .d (.s r.2.2.2)]) := by
  unfold rat_parts at h
  refine Fn.ofA (rs := [.tmp 2, .tmp 3, .tmp 4, .tmp 5]) (nt := 48) Try.func71 rfl rfl rfl (by simp) rfl ?_
  refine .seq ?_
  refine .region ?_
  refine asd ?_
  refine asd ?_
  refine asd ?_
  refine asd ?_
  refine rn ?_
  refine .gh (Gh.keep [0, 2, 3, 4, 5] rfl) ?_
  refine .seq ?_
  refine .seq ?_
  refine .region ?_
  refine vk (vmvd) ?_
  refine vk (vrng st) ?_
  refine rn ?_
  refine .gh (Gh.keep [2, 3, 4, 5, 9] rfl) ?_
  refine .block ?_
  refine .loop (.gh (Gh.keep [2, 3, 4, 5, 9] rfl) ?_)
  refine AL.ind (σ := Nat × Bool × ByteArray × Int × ByteArray × Nat) (m := fun p => p.1) (e := fun p => [(2, .d (.b p.2.1)), (3, .d (.s p.2.2.1)), (4, .d (.i .i32 p.2.2.2.1)), (5, .d (.s p.2.2.2.2.1)), (9, .it a0 p.2.2.2.2.2)]) (h := fun p => []) (I := fun p => rat_parts_l0 a0 p.1 p.2.1 p.2.2.1 p.2.2.2.1 p.2.2.2.2.1 p.2.2.2.2.2 = some r) ?_ (FUEL, false, (⟨#[]⟩ : ByteArray), 0, (⟨#[]⟩ : ByteArray), 0) h
  rintro ⟨k, s1, s2, s3, s4, s5⟩ h ih
  dsimp only at h ih ⊢
  rcases k with _ | k
  · rw [rat_parts_l0] at h; cases h
  rw [rat_parts_l0] at h
  refine .seq ?_
  refine .region ?_
  by_cases hc : s5 < ByteArray.size a0
  · replace h := ite_t hc h
    refine nxt ?_ hc
    refine vk (vex) ?_
    refine rn ?_
    refine .gh (Gh.keep [2, 3, 4, 5, 9, 10, 11] rfl) ?_
    refine .seq ?_
    refine cndt ?_
    refine .skip ?_
    show AW _ _ _ _ _ _
    refine .block ?_
    refine .seq ?_
    refine .region ?_
    refine vk (vex) ?_
    refine vk (vex) ?_
    refine asd ?_
    refine asd ?_
    refine rn ?_
    refine .gh (Gh.keep [2, 3, 4, 5, 6, 7, 9] rfl) ?_
    refine .block ?_
    refine .seq ?_
    refine AW.mr (σ := Unit) (fun _ => True) (fun _ => [(2, .d (.b s1)), (3, .d (.s s2)), (4, .d (.i .i32 s3)), (5, .d (.s s4)), (7, .d (.i .i32 (rune a0 s5))), (9, .it a0 (rnext a0 s5)), (18, .d (.b ((decide (((s5 : Nat) : Int) = 0)) && (decide ((rune a0 s5) = 175)))))]) (fun _ => []) ?_ ?_
    · skip
      refine .region ?_
      refine vk (vmvd) ?_
      refine vk (vbi) ?_
      by_cases hc : ((s5 : Nat) : Int) = 0
      · have hb0 : (decide (((s5 : Nat) : Int) = 0)) = true := (decide_eq_true hc)
        refine vk (VOK.lit (vmvd) hb0) ?_
        refine vk (vmvd) ?_
        refine vk (vbi) ?_
        refine vk (vpkd) ?_
        refine asd ?_
        refine RL.gh (Gh.keep [2, 3, 4, 5, 7, 9, 18] rfl) ?_
        refine .nil ?_
        exact jr () trivial (by simp only [hb0]; rfl)
      have hb0 : (decide (((s5 : Nat) : Int) = 0)) = false := (decide_eq_false hc)
      refine vk (VOK.lit (vmvd) hb0) ?_
      refine gf ?_
      refine gf ?_
      refine vk (vpkd) ?_
      refine asd ?_
      refine RL.gh (Gh.keep [2, 3, 4, 5, 7, 9, 18] rfl) ?_
      refine .nil ?_
      exact jr () trivial (by simp only [hb0]; rfl)
    rintro _ _
    by_cases hc : ((decide (((s5 : Nat) : Int) = 0)) && (decide ((rune a0 s5) = 175))) = true
    · replace h := ite_t hc h
      refine cnt hc ?_
      refine .region ?_
      refine asd ?_
      refine .nil ?_
      refine AL.gh (Gh.keep [2, 3, 4, 5, 9] rfl) ?_
      exact ih (k, true, s2, s3, s4, (rnext a0 s5)) h (Nat.lt_succ_self _)
    replace h := ite_f hc h
    refine cnf (bf hc) ?_
    refine .seq ?_
    refine AW.mr (σ := Unit) (fun _ => True) (fun _ => [(2, .d (.b s1)), (3, .d (.s s2)), (4, .d (.i .i32 s3)), (5, .d (.s s4)), (7, .d (.i .i32 (rune a0 s5))), (9, .it a0 (rnext a0 s5)), (25, .d (.b ((decide (s3 = 0)) && ((decide ((rune a0 s5) = 46)) || (decide ((rune a0 s5) = 114))))))]) (fun _ => []) ?_ ?_
    · skip
      refine .region ?_
      refine vk (vmvd) ?_
      refine vk (vbi) ?_
      by_cases hc : s3 = 0
      · have hb0 : (decide (s3 = 0)) = true := (decide_eq_true hc)
        refine vk (VOK.lit (vmvd) hb0) ?_
        refine vk (vmvd) ?_
        refine vk (vbi) ?_
        by_cases hc : (rune a0 s5) = 46
        · have hb1 : (decide ((rune a0 s5) = 46)) = true := (decide_eq_true hc)
          refine vk (VOK.lit (vmvd) hb1) ?_
          refine gf ?_
          refine gf ?_
          refine vk (vpkd) ?_
          refine vk (vpkd) ?_
          refine asd ?_
          refine RL.gh (Gh.keep [2, 3, 4, 5, 7, 9, 25] rfl) ?_
          refine .nil ?_
          exact jr () trivial (by simp only [hb0, hb1]; rfl)
        have hb1 : (decide ((rune a0 s5) = 46)) = false := (decide_eq_false hc)
        refine vk (VOK.lit (vmvd) hb1) ?_
        refine vk (vmvd) ?_
        refine vk (vbi) ?_
        refine vk (vpkd) ?_
        refine vk (vpkd) ?_
        refine asd ?_
        refine RL.gh (Gh.keep [2, 3, 4, 5, 7, 9, 25] rfl) ?_
        refine .nil ?_
        exact jr () trivial (by simp only [hb0, hb1]; rfl)
      have hb0 : (decide (s3 = 0)) = false := (decide_eq_false hc)
      refine vk (VOK.lit (vmvd) hb0) ?_
      refine gf ?_
      refine gf ?_
      refine gfu ?_
      refine gf ?_
      refine gf ?_
      refine gf ?_
      refine vk (vpkd) ?_
      refine asd ?_
      refine RL.gh (Gh.keep [2, 3, 4, 5, 7, 9, 25] rfl) ?_
      refine .nil ?_
      exact jr () trivial (by simp only [hb0]; rfl)
    rintro _ _
    by_cases hc : ((decide (s3 = 0)) && ((decide ((rune a0 s5) = 46)) || (decide ((rune a0 s5) = 114)))) = true
    · replace h := ite_t hc h
      refine cnt hc ?_
      refine .region ?_
      refine vk (vmvd) ?_
      refine asd ?_
      refine .nil ?_
      refine AL.gh (Gh.keep [2, 3, 4, 5, 9] rfl) ?_
      exact ih (k, s1, s2, (rune a0 s5), s4, (rnext a0 s5)) h (Nat.lt_succ_self _)
    replace h := ite_f hc h
    refine cnf (bf hc) ?_
    refine .seq ?_
    refine .region ?_
    refine vk (vmvd) ?_
    refine vk (vbi) ?_
    refine asd ?_
    refine rn ?_
    refine .gh (Gh.keep [2, 3, 4, 5, 7, 9, 37] rfl) ?_
    by_cases hc : s3 = 0
    · replace h := ite_t hc h
      refine cnt (decide_eq_true hc) ?_
      refine .region ?_
      refine vk (vmvd) ?_
      refine vk (vmvd) ?_
      refine vk (vcrs (by rw [gk_int32]; rfl) st) ?_
      obtain ⟨x6, hx6, h⟩ := bnd h
      refine vk (vsa hx6) ?_
      refine asd ?_
      refine .nil ?_
      refine AL.gh (Gh.keep [2, 3, 4, 5, 9] rfl) ?_
      exact ih (k, s1, x6, s3, s4, (rnext a0 s5)) h (Nat.lt_succ_self _)
    replace h := ite_f hc h
    refine cnf (decide_eq_false hc) ?_
    refine .region ?_
    refine vk (vmvd) ?_
    refine vk (vmvd) ?_
    refine vk (vcrs (by rw [gk_int32]; rfl) st) ?_
    obtain ⟨x7, hx7, h⟩ := bnd h
    refine vk (vsa hx7) ?_
    refine asd ?_
    refine .nil ?_
    refine AL.gh (Gh.keep [2, 3, 4, 5, 9] rfl) ?_
    exact ih (k, s1, s2, s3, x7, (rnext a0 s5)) h (Nat.lt_succ_self _)
  replace h := ite_f hc h
  refine nxe ?_ hc
  refine vk (vex) ?_
  refine rn ?_
  refine .gh (Gh.keep [2, 3, 4, 5, 9, 10, 11] rfl) ?_
  refine .seq ?_
  refine cndf ?_
  refine .exit ?_
  show AW _ _ _ _ _ _
  refine .seq ?_
  refine .region ?_
  refine vk (vmvd) ?_
  refine vk (vmvd) ?_
  refine vk (vmvd) ?_
  refine vk (vmvd) ?_
  refine asd ?_
  refine asd ?_
  refine asd ?_
  refine asd ?_
  refine rn ?_
  refine .gh (Gh.keep [2, 3, 4, 5] rfl) ?_
  refine .ret ?_
  cases h
  exact ⟨_, _, _, _, rfl, rfl, rfl, rfl, rfl⟩

def rat_Parse_l1 (x2 : Bool × ByteArray × Int × ByteArray) (x3 : (List Nat) × Bool) (x4 : (List Nat) × Bool) (K0 : (List Nat) → (List Nat) → Option (RT × Int)) : Nat → (List Nat) → Nat → Option (RT × Int)
  | 0, _, _ => none
  | k + 1, s8, s9 => (if s9 < ByteArray.size x2.2.2.2 then ((nProduct ([s8, [10]])).bind fun x10 => (rat_Parse_l1 x2 x3 x4 K0 k x10 (rnext x2.2.2.2 s9))) else ((nProduct ([x3.1, s8])).bind fun x11 => ((nSum ([x11, x4.1])).bind fun x12 => (K0 x12 s8))))
def rat_Parse (a0 : ByteArray) : Option (RT × Int) := ((unicode_utf8_RuneCountInString a0).bind fun x1 => (if 700 < x1 then (some ((false, [], []), 8)) else ((rat_parts a0).bind fun x2 => ((nParse x2.2.1).bind fun x3 => ((nParse x2.2.2.2).bind fun x4 => (ratOne.bind fun x5 => (jn (fun (z6 : (List Nat)) (z7 : (List Nat)) => ((ratMake x2.1 z6 z7).bind fun x13 => (some (x13.1, x13.2)))) fun K0 => (if ((!x3.2) || (bif (!(decide (x2.2.2.1 = 0))) then ((!x4.2) || ((decide (x2.2.2.1 = 114)) && (decide (((List.length x4.1 : Nat) : Int) = 0)))) else ((decide (x2.2.2.1 = 114)) && (decide (((List.length x4.1 : Nat) : Int) = 0))))) = true then (some ((false, [], []), 22)) else (if x2.2.2.1 = 114 then (K0 x3.1 x4.1) else (if x2.2.2.1 = 46 then (rat_Parse_l1 x2 x3 x4 K0 FUEL x5 0) else (K0 x3.1 x5)))))))))))
theorem rat_Parse_ok {a0 : ByteArray} {r : RT × Int} (h : rat_Parse a0 = some r) :
    Fn Try.prog 21 [.s a0] (.tup [.d (.ag [.b r.1.1, .sl (L r.1.2.1), .sl (L r.1.2.2)]), .d (.i .i64 r.2)]) := by
  unfold rat_Parse at h
  refine Fn.ofC (rs := [.cell 2 25, .tmp 3]) (nt := 84) Try.func21 rfl rfl rfl (by simp) rfl ?_
  refine .seq ?_
  refine .region ?_
  refine vk (van (zero_of gI_R) gZ_R) ?_
  refine asd ?_
  refine rn ?_
  refine .gh (Gh.keep [0, 2, 3] rfl) ?_
  refine .seq ?_
  refine .seq ?_
  refine .region ?_
  refine vk (vmvd) ?_
  obtain ⟨x1, hx1, h⟩ := bnd h
  refine vk (vcl0 (unicode_utf8_RuneCountInString_ok hx1) Try.call70) ?_
  refine vk (vbi) ?_
  refine rn ?_
  refine .gh (Gh.keep [0, 2, 3, 15] rfl) ?_
  by_cases hc : 700 < x1
  · replace h := ite_t hc h
    refine cnt (decide_eq_true hc) ?_
    refine .seq ?_
    refine .region ?_
    refine vk (vbd gP_R gI_R gZ_R) ?_
    refine stn ?_ gS_R (by decide)
    refine asd ?_
    refine rn ?_
    refine .gh (Gh.keep [0, 2, 3] rfl) ?_
    refine .ret ?_
    cases h
    exact ⟨_, _, ⟨.inr rfl, gA_R, gS_R, (by decide : (0 : Nat) < 3)⟩, rfl, rfl⟩
  replace h := ite_f hc h
  refine cnf (decide_eq_false hc) ?_
  refine .skip ?_
  show AW _ _ _ _ _ _
  refine .seq ?_
  refine .region ?_
  refine vk (vmvd) ?_
  obtain ⟨x2, hx2, h⟩ := bnd h
  refine vk (VOK.tupd (vs := [.b x2.1, .s x2.2.1, .i .i32 x2.2.2.1, .s x2.2.2.2]) (vcl0 (rat_parts_ok hx2) Try.call71)) ?_
  refine vk (vmvd) ?_
  refine vk (vex) ?_
  refine vk (vex) ?_
  refine vk (vex) ?_
  refine vk (vex) ?_
  refine asd ?_
  refine asd ?_
  refine asd ?_
  refine asd ?_
  refine rn ?_
  refine .gh (Gh.keep [2, 3, 4, 5, 6, 7] rfl) ?_
  refine .seq ?_
  refine .region ?_
  refine vk (vmvd) ?_
  obtain ⟨x3, hx3, h⟩ := bnd h
  refine vk (VOK.tupd (vs := [.sl (L x3.1), .b x3.2]) (vcl0 (nParse_ok hx3) Try.call72)) ?_
  refine vk (vmvd) ?_
  refine vk (vex) ?_
  refine vk (vex) ?_
  refine asd ?_
  refine asd ?_
  refine rn ?_
  refine .gh (Gh.keep [2, 3, 4, 6, 7, 8, 9] rfl) ?_
  refine .seq ?_
  refine .region ?_
  refine vk (vmvd) ?_
  obtain ⟨x4, hx4, h⟩ := bnd h
  refine vk (VOK.tupd (vs := [.sl (L x4.1), .b x4.2]) (vcl0 (nParse_ok hx4) Try.call72)) ?_
  refine vk (vmvd) ?_
  refine vk (vex) ?_
  refine vk (vex) ?_
  refine asd ?_
  refine asd ?_
  refine rn ?_
  refine .gh (Gh.keep [2, 3, 4, 6, 7, 8, 9, 10, 11] rfl) ?_
  refine .seq ?_
  refine .region ?_
  obtain ⟨x5, hx5, h⟩ := bnd h
  refine vk ((vcl0 (ratOne_ok hx5) Try.call66).deep) ?_
  refine asd ?_
  refine rn ?_
  refine .gh (Gh.keep [2, 3, 4, 6, 7, 8, 9, 10, 11, 12] rfl) ?_
  obtain ⟨K0, hK0, h⟩ := jn_out h
  refine AW.mj (σ := (List Nat) × (List Nat)) (fun p => K0 p.1 p.2 = some r) (fun p => [(2, .nb [.b false, .sl (L []), .sl (L [])]), (3, .d (.i .i64 0)), (4, .d (.b x2.1)), (8, .d (.sl (L p.1))), (12, .d (.sl (L p.2)))]) (fun p => []) ?_ ?_
  · skip
    refine .block ?_
    refine .seq ?_
    refine AW.mr (σ := Unit) (fun _ => True) (fun _ => [(2, .nb [.b false, .sl (L []), .sl (L [])]), (3, .d (.i .i64 0)), (4, .d (.b x2.1)), (6, .d (.i .i32 x2.2.2.1)), (7, .d (.s x2.2.2.2)), (8, .d (.sl (L x3.1))), (10, .d (.sl (L x4.1))), (12, .d (.sl (L x5))), (35, .d (.b ((!x3.2) || (bif (!(decide (x2.2.2.1 = 0))) then ((!x4.2) || ((decide (x2.2.2.1 = 114)) && (decide (((List.length x4.1 : Nat) : Int) = 0)))) else ((decide (x2.2.2.1 = 114)) && (decide (((List.length x4.1 : Nat) : Int) = 0)))))))]) (fun _ => []) ?_ ?_
    · skip
      refine .region ?_
      refine vk (vmvd) ?_
      refine vk (vnt) ?_
      by_cases hc : x3.2 = true
      · have hb0 : (!x3.2) = false := (ntf hc)
        refine vk (VOK.lit (vmvd) hb0) ?_
        refine vk (vmvd) ?_
        refine vk (vbi) ?_
        by_cases hc : x2.2.2.1 = 0
        · have hb1 : (!(decide (x2.2.2.1 = 0))) = false := (ntf (decide_eq_true hc))
          refine vk (VOK.lit (vmvd) hb1) ?_
          refine gf ?_
          refine gf ?_
          refine vk (vpkd) ?_
          refine vk (vpkd) ?_
          refine vk (vmvd) ?_
          refine vk (vmvd) ?_
          refine vk (vbi) ?_
          by_cases hc : x2.2.2.1 = 114
          · have hb2 : (decide (x2.2.2.1 = 114)) = true := (decide_eq_true hc)
            refine vk (VOK.lit (vmvd) hb2) ?_
            refine vk (vmvd) ?_
            refine vk (vlnE (L_length _) (L_sz _) gu_L) ?_
            refine vk (vbi) ?_
            refine vk (vpkd) ?_
            refine vk (vpkd) ?_
            refine asd ?_
            refine RL.gh (Gh.keep [2, 3, 4, 6, 7, 8, 10, 12, 35] rfl) ?_
            refine .nil ?_
            exact jr () trivial (by simp only [hb0, hb1, hb2]; rfl)
          have hb2 : (decide (x2.2.2.1 = 114)) = false := (decide_eq_false hc)
          refine vk (VOK.lit (vmvd) hb2) ?_
          refine gf ?_
          refine gf ?_
          refine gf ?_
          refine vk (vpkd) ?_
          refine vk (vpkd) ?_
          refine asd ?_
          refine RL.gh (Gh.keep [2, 3, 4, 6, 7, 8, 10, 12, 35] rfl) ?_
          refine .nil ?_
          exact jr () trivial (by simp only [hb0, hb1, hb2]; rfl)
        have hb1 : (!(decide (x2.2.2.1 = 0))) = true := (ntt (decide_eq_false hc))
        refine vk (VOK.lit (vmvd) hb1) ?_
        refine vk (vmvd) ?_
        refine vk (vnt) ?_
        refine vk (vpkd) ?_
        refine vk (vpkd) ?_
        by_cases hc : x4.2 = true
        · have hb2 : (!x4.2) = false := (ntf hc)
          refine vk (VOK.lit (vmvd) hb2) ?_
          refine vk (vmvd) ?_
          refine vk (vbi) ?_
          by_cases hc : x2.2.2.1 = 114
          · have hb3 : (decide (x2.2.2.1 = 114)) = true := (decide_eq_true hc)
            refine vk (VOK.lit (vmvd) hb3) ?_
            refine vk (vmvd) ?_
            refine vk (vlnE (L_length _) (L_sz _) gu_L) ?_
            refine vk (vbi) ?_
            refine vk (vpkd) ?_
            refine vk (vpkd) ?_
            refine asd ?_
            refine RL.gh (Gh.keep [2, 3, 4, 6, 7, 8, 10, 12, 35] rfl) ?_
            refine .nil ?_
            exact jr () trivial (by simp only [hb0, hb1, hb2, hb3]; rfl)
          have hb3 : (decide (x2.2.2.1 = 114)) = false := (decide_eq_false hc)
          refine vk (VOK.lit (vmvd) hb3) ?_
          refine gf ?_
          refine gf ?_
          refine gf ?_
          refine vk (vpkd) ?_
          refine vk (vpkd) ?_
          refine asd ?_
          refine RL.gh (Gh.keep [2, 3, 4, 6, 7, 8, 10, 12, 35] rfl) ?_
          refine .nil ?_
          exact jr () trivial (by simp only [hb0, hb1, hb2, hb3]; rfl)
        have hb2 : (!x4.2) = true := (ntt (bf hc))
        refine vk (VOK.lit (vmvd) hb2) ?_
        refine gf ?_
        refine gf ?_
        refine gfu ?_
        refine gf ?_
        refine gf ?_
        refine gf ?_
        refine gf ?_
        refine vk (vpkd) ?_
        refine asd ?_
        refine RL.gh (Gh.keep [2, 3, 4, 6, 7, 8, 10, 12, 35] rfl) ?_
        refine .nil ?_
        exact jr () trivial (by simp only [hb0, hb1, hb2]; rfl)
      have hb0 : (!x3.2) = true := (ntt (bf hc))
      refine vk (VOK.lit (vmvd) hb0) ?_
      refine gf ?_
      refine gf ?_
      refine gfu ?_
      refine gf ?_
      refine gf ?_
      refine gf ?_
      refine vk (vpkd) ?_
      refine vk (vmvd) ?_
      refine gf ?_
      refine gf ?_
      refine gfu ?_
      refine gf ?_
      refine gf ?_
      refine gf ?_
      refine gf ?_
      refine vk (vpkd) ?_
      refine asd ?_
      refine RL.gh (Gh.keep [2, 3, 4, 6, 7, 8, 10, 12, 35] rfl) ?_
      refine .nil ?_
      exact jr () trivial (by simp only [hb0]; rfl)
    rintro _ _
    by_cases hc : ((!x3.2) || (bif (!(decide (x2.2.2.1 = 0))) then ((!x4.2) || ((decide (x2.2.2.1 = 114)) && (decide (((List.length x4.1 : Nat) : Int) = 0)))) else ((decide (x2.2.2.1 = 114)) && (decide (((List.length x4.1 : Nat) : Int) = 0))))) = true
    · replace h := ite_t hc h
      refine cnt hc ?_
      refine .seq ?_
      refine .region ?_
      refine vk (vbd gP_R gI_R gZ_R) ?_
      refine stn ?_ gS_R (by decide)
      refine asd ?_
      refine rn ?_
      refine .gh (Gh.keep [2, 3, 4, 8, 12] rfl) ?_
      refine .ret ?_
      cases h
      exact ⟨_, _, ⟨.inr rfl, gA_R, gS_R, (by decide : (0 : Nat) < 3)⟩, rfl, rfl⟩
    replace h := ite_f hc h
    refine cnf (bf hc) ?_
    refine .seq ?_
    refine .region ?_
    refine vk (vmvd) ?_
    refine vk (vbi) ?_
    refine asd ?_
    refine rn ?_
    refine .gh (Gh.keep [2, 3, 4, 6, 7, 8, 10, 12, 56] rfl) ?_
    by_cases hc : x2.2.2.1 = 114
    · replace h := ite_t hc h
      refine cnt (decide_eq_true hc) ?_
      refine .region ?_
      refine vk (vmvd) ?_
      refine asd ?_
      refine RL.gh (Gh.keep [2, 3, 4, 8, 12] rfl) ?_
      refine .nil ?_
      exact jr (x3.1, x4.1) h
    replace h := ite_f hc h
    refine cnf (decide_eq_false hc) ?_
    refine .seq ?_
    refine .region ?_
    refine vk (vmvd) ?_
    refine vk (vbi) ?_
    refine asd ?_
    refine rn ?_
    refine .gh (Gh.keep [2, 3, 4, 7, 8, 10, 12, 60] rfl) ?_
    by_cases hc : x2.2.2.1 = 46
    · replace h := ite_t hc h
      refine cnt (decide_eq_true hc) ?_
      refine .seq ?_
      refine .seq ?_
      refine .region ?_
      refine vk (vmvd) ?_
      refine vk (vrng st) ?_
      refine rn ?_
      refine .gh (Gh.keep [2, 3, 4, 8, 10, 12, 64] rfl) ?_
      refine .block ?_
      refine .loop (.gh (Gh.keep [2, 3, 4, 8, 10, 12, 64] rfl) ?_)
      refine AL.ind (σ := Nat × (List Nat) × Nat) (m := fun p => p.1) (e := fun p => [(2, .nb [.b false, .sl (L []), .sl (L [])]), (3, .d (.i .i64 0)), (4, .d (.b x2.1)), (8, .d (.sl (L x3.1))), (10, .d (.sl (L x4.1))), (12, .d (.sl (L p.2.1))), (64, .it x2.2.2.2 p.2.2)]) (h := fun p => []) (I := fun p => rat_Parse_l1 x2 x3 x4 K0 p.1 p.2.1 p.2.2 = some r) ?_ (FUEL, x5, 0) h
      rintro ⟨k, s8, s9⟩ h ih
      dsimp only at h ih ⊢
      rcases k with _ | k
      · rw [rat_Parse_l1] at h; cases h
      rw [rat_Parse_l1] at h
      refine .seq ?_
      refine .region ?_
      by_cases hc : s9 < ByteArray.size x2.2.2.2
      · replace h := ite_t hc h
        refine nxt ?_ hc
        refine vk (vex) ?_
        refine rn ?_
        refine .gh (Gh.keep [2, 3, 4, 8, 10, 12, 64, 66] rfl) ?_
        refine .seq ?_
        refine cndt ?_
        refine .skip ?_
        show AW _ _ _ _ _ _
        refine .block ?_
        refine .region ?_
        refine vk (vmvd) ?_
        refine vk ((vbsl (L_flat [10]) ge_L).deep) ?_
        refine vk ((vbsl (LL_flat [s8, [10]]) ge_LL).deep) ?_
        obtain ⟨x10, hx10, h⟩ := bnd h
        refine vk (vcl0 (nProduct_ok hx10) Try.call73) ?_
        refine asd ?_
        refine .nil ?_
        refine AL.gh (Gh.keep [2, 3, 4, 8, 10, 12, 64] rfl) ?_
        exact ih (k, x10, (rnext x2.2.2.2 s9)) h (Nat.lt_succ_self _)
      replace h := ite_f hc h
      refine nxe ?_ hc
      refine vk (vex) ?_
      refine rn ?_
      refine .gh (Gh.keep [2, 3, 4, 8, 10, 12, 64, 66] rfl) ?_
      refine .seq ?_
      refine cndf ?_
      refine .exit ?_
      show AW _ _ _ _ _ _
      refine .region ?_
      refine vk (vmvd) ?_
      refine vk (vmvd) ?_
      refine vk ((vbsl (LL_flat [x3.1, s8]) ge_LL).deep) ?_
      obtain ⟨x11, hx11, h⟩ := bnd h
      refine vk (vcl0 (nProduct_ok hx11) Try.call73) ?_
      refine vk (vmvd) ?_
      refine vk ((vbsl (LL_flat [x11, x4.1]) ge_LL).deep) ?_
      obtain ⟨x12, hx12, h⟩ := bnd h
      refine vk (vcl0 (nSum_ok hx12) Try.call74) ?_
      refine asd ?_
      refine RL.gh (Gh.keep [2, 3, 4, 8, 12] rfl) ?_
      refine .nil ?_
      exact jr (x12, s8) h
    replace h := ite_f hc h
    refine cnf (decide_eq_false hc) ?_
    refine .gh (Gh.keep [2, 3, 4, 8, 12] rfl) ?_
    refine .skip ?_
    exact jr (x3.1, x5) h
  rintro ⟨z6, z7⟩ h
  try dsimp only at h ⊢
  subst hK0
  refine .seq ?_
  refine .region ?_
  refine vk (vmvd) ?_
  refine vk (vmvd) ?_
  refine vk (vmvd) ?_
  obtain ⟨x13, hx13, h⟩ := bnd h
  refine vk (VOK.tupd (vs := [.ag [.b x13.1.1, .sl (L x13.1.2.1), .sl (L x13.1.2.2)], .i .i64 x13.2]) (vcl0 (ratMake_ok hx13) Try.call16)) ?_
  refine vk (vex) ?_
  refine vk (vex) ?_
  refine stn ?_ gS_R (by decide)
  refine asd ?_
  refine rn ?_
  refine .gh (Gh.keep [2, 3] rfl) ?_
  refine .ret ?_
  cases h
  exact ⟨_, _, ⟨.inr rfl, gA_R, gS_R, (by decide : (0 : Nat) < 3)⟩, rfl, rfl⟩
end Go.FL
/-
  GP: glyphlaw02: live, same.
-/
namespace Go.FL
open Go Go.Proofs

def law02_live : Option (Bool) := ((rat_Parse (⟨#[49, 114, 51]⟩ : ByteArray)).bind fun x1 => ((rat_Parse (⟨#[194, 175, 50, 46, 53]⟩ : ByteArray)).bind fun x2 => ((ratMul ([x1.1, x2.1])).bind fun x3 => (Option.bind ((if x1.2 = 0 then (if x2.2 = 0 then (if x3.2 = 0 then ((rat_Print x3.1).bind fun x5 => (if x5 = (⟨#[194, 175, 53, 114, 54]⟩ : ByteArray) then ((ratRight x3.1).bind fun x6 => (some x6)) else (some false))) else (some false)) else (some false)) else (some false)) : Option (Bool)) fun (z4 : Bool) => (some (z4))))))
theorem law02_live_ok {r : Bool} (h : law02_live = some r) :
    Fn Try.prog 15 [] (.d (.b r)) := by
  unfold law02_live at h
  refine Fn.of (rs := [.tmp 0]) (nt := 41) Try.func15 rfl rfl rfl (by simp) rfl ?_
  refine .seq ?_
  refine .region ?_
  refine asd ?_
  refine rn ?_
  refine .gh (Gh.keep [0] rfl) ?_
  refine .seq ?_
  refine .region ?_
  obtain ⟨x1, hx1, h⟩ := bnd h
  refine vk (VOK.tupd (vs := [.ag [.b x1.1.1, .sl (L x1.1.2.1), .sl (L x1.1.2.2)], .i .i64 x1.2]) (vcl0 (rat_Parse_ok hx1) Try.call21)) ?_
  refine vk (vmvd) ?_
  refine vk (vex) ?_
  refine vk (vex) ?_
  refine vk (van (zero_of gI_R) gZ_R) ?_
  refine stn ?_ gS_R (by decide)
  refine asd ?_
  refine rn ?_
  refine .gh (Gh.keep [0, 1, 2] rfl) ?_
  refine .seq ?_
  refine .region ?_
  obtain ⟨x2, hx2, h⟩ := bnd h
  refine vk (VOK.tupd (vs := [.ag [.b x2.1.1, .sl (L x2.1.2.1), .sl (L x2.1.2.2)], .i .i64 x2.2]) (vcl0 (rat_Parse_ok hx2) Try.call21)) ?_
  refine vk (vmvd) ?_
  refine vk (vex) ?_
  refine vk (vex) ?_
  refine vk (van (zero_of gI_R) gZ_R) ?_
  refine stn ?_ gS_R (by decide)
  refine asd ?_
  refine rn ?_
  refine .gh (Gh.keep [0, 1, 2, 3, 4] rfl) ?_
  refine .seq ?_
  refine .region ?_
  refine vk (vldn gA_R gS_R) ?_
  refine vk (vldn gA_R gS_R) ?_
  refine vk ((vbsl (RVs_flat [x1.1, x2.1]) ge_RVs).deep) ?_
  obtain ⟨x3, hx3, h⟩ := bnd h
  refine vk (VOK.tupd (vs := [.ag [.b x3.1.1, .sl (L x3.1.2.1), .sl (L x3.1.2.2)], .i .i64 x3.2]) (vcl0 (ratMul_ok hx3) Try.call35)) ?_
  refine vk (vmvd) ?_
  refine vk (vex) ?_
  refine vk (vex) ?_
  refine vk (van (zero_of gI_R) gZ_R) ?_
  refine stn ?_ gS_R (by decide)
  refine asd ?_
  refine rn ?_
  refine .gh (Gh.keep [0, 2, 4, 5, 6] rfl) ?_
  refine .seq ?_
  obtain ⟨z4, hz, h⟩ := bnd h
  refine AW.mr (σ := Unit) (fun _ => True) (fun _ => [(0, .d (.b z4))]) (fun _ => []) ?_ ?_
  · skip
    refine .region ?_
    refine vk (vmvd) ?_
    refine vk (vbi) ?_
    by_cases hc : x1.2 = 0
    · replace hz := ite_t hc hz
      have hb0 : (decide (x1.2 = 0)) = true := (decide_eq_true hc)
      refine vk (VOK.lit (vmvd) hb0) ?_
      refine vk (vmvd) ?_
      refine vk (vbi) ?_
      refine vk (vpkd) ?_
      by_cases hc : x2.2 = 0
      · replace hz := ite_t hc hz
        have hb1 : (decide (x2.2 = 0)) = true := (decide_eq_true hc)
        refine vk (VOK.lit (vmvd) hb1) ?_
        refine vk (vmvd) ?_
        refine vk (vbi) ?_
        refine vk (vpkd) ?_
        by_cases hc : x3.2 = 0
        · replace hz := ite_t hc hz
          have hb2 : (decide (x3.2 = 0)) = true := (decide_eq_true hc)
          refine vk (VOK.lit (vmvd) hb2) ?_
          refine vk (vldn gA_R gS_R) ?_
          obtain ⟨x5, hx5, hz⟩ := bnd hz
          refine vk (vcl0 (rat_Print_ok hx5) Try.call23) ?_
          refine vk (vsq (.inl rfl)) ?_
          refine vk (vpkd) ?_
          by_cases hc : x5 = (⟨#[194, 175, 53, 114, 54]⟩ : ByteArray)
          · replace hz := ite_t hc hz
            have hb3 : (decide (x5 = (⟨#[194, 175, 53, 114, 54]⟩ : ByteArray))) = true := (decide_eq_true hc)
            refine vk (VOK.lit (vmvd) hb3) ?_
            refine vk (vldn gA_R gS_R) ?_
            obtain ⟨x6, hx6, hz⟩ := bnd hz
            refine vk (vcl0 (ratRight_ok hx6) Try.call19) ?_
            refine vk (vpkd) ?_
            refine asd ?_
            refine RL.gh (Gh.keep [0] rfl) ?_
            refine .nil ?_
            cases hz
            exact jr () trivial
          replace hz := ite_f hc hz
          have hb3 : (decide (x5 = (⟨#[194, 175, 53, 114, 54]⟩ : ByteArray))) = false := (decide_eq_false hc)
          refine vk (VOK.lit (vmvd) hb3) ?_
          refine gf ?_
          refine gf ?_
          refine vk (vpkd) ?_
          refine asd ?_
          refine RL.gh (Gh.keep [0] rfl) ?_
          refine .nil ?_
          cases hz
          exact jr () trivial
        replace hz := ite_f hc hz
        have hb2 : (decide (x3.2 = 0)) = false := (decide_eq_false hc)
        refine vk (VOK.lit (vmvd) hb2) ?_
        refine gf ?_
        refine gf ?_
        refine gf ?_
        refine vk (vpkd) ?_
        refine vk (vmvd) ?_
        refine gf ?_
        refine gf ?_
        refine vk (vpkd) ?_
        refine asd ?_
        refine RL.gh (Gh.keep [0] rfl) ?_
        refine .nil ?_
        cases hz
        exact jr () trivial
      replace hz := ite_f hc hz
      have hb1 : (decide (x2.2 = 0)) = false := (decide_eq_false hc)
      refine vk (VOK.lit (vmvd) hb1) ?_
      refine gf ?_
      refine gf ?_
      refine vk (vpkd) ?_
      refine vk (vmvd) ?_
      refine gf ?_
      refine gf ?_
      refine gf ?_
      refine vk (vpkd) ?_
      refine vk (vmvd) ?_
      refine gf ?_
      refine gf ?_
      refine vk (vpkd) ?_
      refine asd ?_
      refine RL.gh (Gh.keep [0] rfl) ?_
      refine .nil ?_
      cases hz
      exact jr () trivial
    replace hz := ite_f hc hz
    have hb0 : (decide (x1.2 = 0)) = false := (decide_eq_false hc)
    refine vk (VOK.lit (vmvd) hb0) ?_
    refine gf ?_
    refine gf ?_
    refine vk (vpkd) ?_
    refine vk (vmvd) ?_
    refine gf ?_
    refine gf ?_
    refine vk (vpkd) ?_
    refine vk (vmvd) ?_
    refine gf ?_
    refine gf ?_
    refine gf ?_
    refine vk (vpkd) ?_
    refine vk (vmvd) ?_
    refine gf ?_
    refine gf ?_
    refine vk (vpkd) ?_
    refine asd ?_
    refine RL.gh (Gh.keep [0] rfl) ?_
    refine .nil ?_
    cases hz
    exact jr () trivial
  rintro _ _
  refine .ret ?_
  cases h
  exact ⟨rfl, rfl⟩

def law02_same (a0 : RT) (a1 : Int) (a2 : RT) (a3 : Int) : Option (Bool) := (Option.bind ((if a1 = a3 then ((ref2Same a0 a2).bind fun x2 => (some x2)) else (some false)) : Option (Bool)) fun (z1 : Bool) => (some (z1)))
theorem law02_same_ok {a0 : RT} {a1 : Int} {a2 : RT} {a3 : Int} {r : Bool} (h : law02_same a0 a1 a2 a3 = some r) :
    Fn Try.prog 18 [.ag [.b a0.1, .sl (L a0.2.1), .sl (L a0.2.2)], .i .i64 a1, .ag [.b a2.1, .sl (L a2.2.1), .sl (L a2.2.2)], .i .i64 a3] (.d (.b r)) := by
  unfold law02_same at h
  refine Fn.of (rs := [.tmp 8]) (nt := 17) Try.func18 rfl rfl rfl (by simp) rfl ?_
  refine .seq ?_
  refine .region ?_
  refine vk (vbx) ?_
  refine vk (vbx) ?_
  refine asd ?_
  refine rn ?_
  refine .gh (Gh.keep [1, 3, 4, 6, 8] rfl) ?_
  refine .seq ?_
  obtain ⟨z1, hz, h⟩ := bnd h
  refine AW.mr (σ := Unit) (fun _ => True) (fun _ => [(8, .d (.b z1))]) (fun _ => []) ?_ ?_
  · skip
    refine .region ?_
    refine vk (vmvd) ?_
    refine vk (vmvd) ?_
    refine vk (vbi) ?_
    by_cases hc : a1 = a3
    · replace hz := ite_t hc hz
      have hb0 : (decide (a1 = a3)) = true := (decide_eq_true hc)
      refine vk (VOK.lit (vmvd) hb0) ?_
      refine vk (vlda gA_R gS_R) ?_
      refine vk (vlda gA_R gS_R) ?_
      obtain ⟨x2, hx2, hz⟩ := bnd hz
      refine vk (vcl0 (ref2Same_ok hx2) Try.call25) ?_
      refine vk (vpkd) ?_
      refine asd ?_
      refine RL.gh (Gh.keep [8] rfl) ?_
      refine .nil ?_
      cases hz
      exact jr () trivial
    replace hz := ite_f hc hz
    have hb0 : (decide (a1 = a3)) = false := (decide_eq_false hc)
    refine vk (VOK.lit (vmvd) hb0) ?_
    refine gf ?_
    refine gf ?_
    refine gf ?_
    refine vk (vpkd) ?_
    refine asd ?_
    refine RL.gh (Gh.keep [8] rfl) ?_
    refine .nil ?_
    cases hz
    exact jr () trivial
  rintro _ _
  refine .ret ?_
  cases h
  exact ⟨rfl, rfl⟩
end Go.FL
/-
  Plain laws, rat 6: what must be whatever is asked.
-/
namespace Go.FL
open Go Go.Proofs

theorem count_a : unicode_utf8_RuneCountInString ⟨#[49, 114, 51]⟩ = some 3 := by kernel_rfl
theorem parts_a : rat_parts ⟨#[49, 114, 51]⟩ = some (false, ⟨#[49]⟩, 114, ⟨#[51]⟩) := by kernel_rfl
theorem count_b : unicode_utf8_RuneCountInString ⟨#[194, 175, 50, 46, 53]⟩ = some 4 := by kernel_rfl
theorem parts_b : rat_parts ⟨#[194, 175, 50, 46, 53]⟩ = some (true, ⟨#[50]⟩, 46, ⟨#[53]⟩) := by kernel_rfl
theorem parse_a : nParse ⟨#[49]⟩ = some (digs 1, true) := by kernel_rfl
theorem parse_b : nParse ⟨#[51]⟩ = some (digs 3, true) := by kernel_rfl
theorem parse_c : nParse ⟨#[50]⟩ = some (digs 2, true) := by kernel_rfl
theorem parse_d : nParse ⟨#[53]⟩ = some (digs 5, true) := by kernel_rfl
theorem nProduct_eq {ls : List (List Nat)} (h : ls.all (okL 40000) = true) (hl : ls.length ≤ 10) : nProduct ls = some (digs (prodF ls 1)) := if_pos (by rw [h, Bool.true_and]; exact decide_eq_true hl)
theorem nSum_eq {ls : List (List Nat)} (h : ls.all (okL 100000) = true) (hl : ls.length ≤ 1000) : nSum ls = some (digs (ls.map val).sum) := if_pos (by rw [h, Bool.true_and]; exact decide_eq_true hl)
theorem ratMake_eq {b : Bool} {n d : Nat} (hn : (digs n).length ≤ 100000) (hd : (digs d).length ≤ 100000) (h : d ≠ 0) : ratMake b (digs n) (digs d) = some (resR (mkRat (sg b n) d)) := by
  have : ratMake b (digs n) (digs d) = some (resQ (makeE b (val (digs n)) (val (digs d)))) := if_pos (by rw [Bool.and_eq_true]; exact ⟨okL_digs hn, okL_digs hd⟩)
  rw [this, val_digs, val_digs, makeE, if_neg h, lowE_rat h, resQ_lowR]
theorem few_len {n : Nat} (h : n < 4294967296) : (digs n).length ≤ 1 := digs_len (k := 1) (by simpa using h)
def r13 : Rat := ⟨1, 3, by decide, by decide⟩
def r52 : Rat := ⟨-5, 2, by decide, by decide⟩
def r56 : Rat := ⟨-5, 6, by decide, by decide⟩
theorem fits_few {p : Rat} (h1 : p.num.natAbs < 4294967296) (h2 : p.den < 4294967296) : fits p := ⟨Nat.le_trans (few_len h1) (by decide), Nat.le_trans (few_len h2) (by decide)⟩
theorem live_a : rat_Parse ⟨#[49, 114, 51]⟩ = some (ofQ r13, 0) := by
  unfold rat_Parse
  refine bind_eq count_a ?_
  rw [if_neg (by decide)]
  refine bind_eq parts_a (bind_eq parse_a (bind_eq parse_b (bind_eq ratOne_eq ?_)))
  simp only [jn]
  rw [if_neg (by
    have : (List.length (digs 3)) ≠ 0 := by rw [Ne, List.length_eq_zero_iff, digs_nil_iff]; decide
    simp [this]), if_pos trivial]
  refine bind_eq (ratMake_eq (Nat.le_trans (few_len (by decide)) (by decide)) (Nat.le_trans (few_len (by decide)) (by decide)) (by decide)) ?_
  rw [show mkRat (sg false 1) 3 = r13 from (Rat.mk_eq_mkRat 1 3 (by decide) (by decide)).symm, resR_fits (fits_few (by decide) (by decide))]
theorem live_b : rat_Parse ⟨#[194, 175, 50, 46, 53]⟩ = some (ofQ r52, 0) := by
  unfold rat_Parse
  refine bind_eq count_b ?_
  rw [if_neg (by decide)]
  refine bind_eq parts_b (bind_eq parse_c (bind_eq parse_d (bind_eq ratOne_eq ?_)))
  simp only [jn]
  have h5 : (List.length (digs 5)) ≠ 0 := by rw [Ne, List.length_eq_zero_iff, digs_nil_iff]; decide
  rw [if_neg (by simp), if_neg (by decide), if_pos trivial]
  have hF : FUEL = 999999999999998 + 1 + 1 := rfl
  rw [hF, rat_Parse_l1, if_pos (by decide), nProduct_eq (by rfl) (by decide), Option.bind_some, rat_Parse_l1, if_neg (by
    show ¬ rnext ⟨#[53]⟩ 0 < ByteArray.size ⟨#[53]⟩
    decide)]
  have e1 : digs (prodF [[1], [10]] 1) = digs 10 := rfl
  have l1 : ∀ n, n < 4294967296 → okL 40000 (digs n) = true := fun n h => okL_digs (Nat.le_trans (few_len h) (by decide))
  have l2 : ∀ n, n < 4294967296 → okL 100000 (digs n) = true := fun n h => okL_digs (Nat.le_trans (few_len h) (by decide))
  rw [e1, nProduct_eq (by simp [l1]) (by decide), Option.bind_some]
  have e2 : prodF [digs 2, digs 10] 1 = 20 := by simp [prodF, val_digs]
  rw [e2, nSum_eq (by simp [l2]) (by decide), Option.bind_some]
  have e3 : ([digs 20, digs 5].map val).sum = 25 := by simp [val_digs]
  rw [e3, ratMake_eq (Nat.le_trans (few_len (by decide)) (by decide)) (Nat.le_trans (few_len (by decide)) (by decide)) (by decide), Option.bind_some]
  rw [show mkRat (sg true 25) 10 = r52 by
    rw [show r52 = mkRat (-5) 2 from Rat.mk_eq_mkRat _ _ _ _]
    exact mkRat_eq (by decide) (by decide) (by decide), resR_fits (fits_few (by decide) (by decide))]
theorem live_eq : law02_live = some true := by
  have f1 : fits r13 := fits_few (by decide) (by decide)
  have f2 : fits r52 := fits_few (by decide) (by decide)
  have f3 : fits r56 := fits_few (by decide) (by decide)
  unfold law02_live
  rw [live_a, Option.bind_some, live_b, Option.bind_some, mul2_q f1 f2]
  have e : r13 * r52 = r56 := by
    rw [show r13 = mkRat 1 3 from Rat.mk_eq_mkRat _ _ _ _, show r52 = mkRat (-5) 2 from Rat.mk_eq_mkRat _ _ _ _, Rat.mkRat_mul_mkRat, show r56 = mkRat (-5) 6 from Rat.mk_eq_mkRat _ _ _ _]; rfl
  rw [e, resR_fits f3, Option.bind_some, if_pos rfl, if_pos rfl, if_pos rfl]
  have hp : rat_Print (ofQ r56) = some ⟨#[194, 175, 53, 114, 54]⟩ := by
    unfold rat_Print
    rw [ratRight_eq (ofQ_okRB f3), ofQ_right f3, Option.bind_some, if_pos rfl]
    have p1 : ∀ n, n < 4294967296 → nPrint (digs n) = some (bstr (decT n)) := fun n h => by
      have : nPrint (digs n) = some (bstr (decT (val (digs n)))) := if_pos (okL_digs (Nat.le_trans (few_len h) (by decide)))
      rw [this, val_digs]
    rw [show (ofQ r56).2.1 = digs 5 from rfl, show (ofQ r56).2.2 = digs 6 from rfl, p1 5 (by decide), p1 6 (by decide), Option.bind_some, if_pos (show (ofQ r56).1 = true from rfl)]
    have d5 : bstr (decT 5) = ⟨#[53]⟩ := by simp [decT, decR]; rfl
    have d6 : bstr (decT 6) = ⟨#[54]⟩ := by simp [decT, decR]; rfl
    rw [d5, d6, show sap? ⟨#[194, 175]⟩ ⟨#[53]⟩ = some ⟨#[194, 175, 53]⟩ by kernel_rfl, Option.bind_some, ratOne_eq, Option.bind_some, equalL_eq (okL_digs (Nat.le_trans (few_len (by decide)) (by decide))) (by rfl), Option.bind_some]
    rw [decide_eq_false (fun h => by have := digs_one_iff.1 h; omega), if_neg (by decide), Option.bind_some, show sap? ⟨#[114]⟩ ⟨#[54]⟩ = some ⟨#[114, 54]⟩ by kernel_rfl, Option.bind_some, show sap? ⟨#[194, 175, 53]⟩ ⟨#[114, 54]⟩ = some ⟨#[194, 175, 53, 114, 54]⟩ by kernel_rfl]
    rfl
  rw [hp, Option.bind_some, if_pos rfl, ratRight_eq (ofQ_okRB f3), ofQ_right f3]; rfl
theorem same_eq {a c : RT} {b d : Int} (h1 : a.2.1.length ≤ 35184372087808) (h2 : a.2.2.length ≤ 35184372087808) : law02_same a b c d = some (decide (b = d ∧ a = c)) := by
  unfold law02_same
  have : ref2Same a c = some (decide (a = c)) := if_pos (by rw [decide_eq_true h1, decide_eq_true h2]; rfl)
  by_cases h : b = d
  · rw [if_pos h, this]; simp [h]
  · rw [if_neg h]; simp [h]
end Go.FL
/-
  GP: glyphref02: sums, products, rounding.
-/
namespace Go.FL
open Go Go.Proofs

end Go.FL
/-
  Plain laws, rat 5: the reference's numbers.
-/
namespace Go.FL
open Go Go.Proofs

theorem r1Mul_eq {m n : Nat} (hm : (digs m).length ≤ 400000) (hn : (digs n).length ≤ 400000) : r1Mul (digs m) (digs n) = some (digs (m * n)) := by
  have : r1Mul (digs m) (digs n) = some (digs (val (digs m) * val (digs n))) := if_pos (by rw [Bool.and_eq_true]; exact ⟨okL_digs hm, okL_digs hn⟩)
  rw [this, val_digs, val_digs]
theorem r1Add_eq {m n : Nat} (hm : (digs m).length ≤ 500000) (hn : (digs n).length ≤ 500000) : r1Add (digs m) (digs n) = some (digs (m + n)) := by
  have : r1Add (digs m) (digs n) = some (digs (val (digs m) + val (digs n))) := if_pos (by rw [Bool.and_eq_true]; exact ⟨okL_digs hm, okL_digs hn⟩)
  rw [this, val_digs, val_digs]
theorem ref2Make_eq {b : Bool} {n d : Nat} (hn : (digs n).length ≤ 100000) (hd : (digs d).length ≤ 100000) (h : d ≠ 0) : ref2Make b (digs n) (digs d) = some (resR (mkRat (sg b n) d)) := by
  have : ref2Make b (digs n) (digs d) = some (resQ (makeE b (val (digs n)) (val (digs d)))) := if_pos (by rw [Bool.and_eq_true]; exact ⟨okL_digs hn, okL_digs hd⟩)
  rw [this, val_digs, val_digs, makeE, if_neg h, lowE_rat h, resQ_lowR]
theorem len2 {a b : Nat} {k : Nat} (ha : (digs a).length ≤ k) (hb : (digs b).length ≤ k) : (digs (a * b)).length ≤ 2 * k := by
  have := mul_len (digs_ok a) (digs_ok b) ha hb
  rwa [val_digs, val_digs] at this
end Go.FL
/-
  GP: glyphref02: comparisons, copies, texts.
-/
namespace Go.FL
open Go Go.Proofs

def ref02_Print (a0 : RT) : Option (ByteArray) := ((ref2Right a0).bind fun x1 => (if x1 = true then ((r1Print a0.2.1).bind fun x2 => (if a0.1 = true then ((sap? (⟨#[194, 175]⟩ : ByteArray) x2).bind fun x3 => (ref2One.bind fun x4 => ((r1Same a0.2.2 x4).bind fun x5 => (if x5 = true then (some (x3)) else ((r1Print a0.2.2).bind fun x6 => ((sap? (⟨#[114]⟩ : ByteArray) x6).bind fun x7 => ((sap? x3 x7).bind fun x8 => (some (x8))))))))) else (ref2One.bind fun x9 => ((r1Same a0.2.2 x9).bind fun x10 => (if x10 = true then (some (x2)) else ((r1Print a0.2.2).bind fun x11 => ((sap? (⟨#[114]⟩ : ByteArray) x11).bind fun x12 => ((sap? x2 x12).bind fun x13 => (some (x13)))))))))) else (some ((⟨#[]⟩ : ByteArray)))))
theorem ref02_Print_ok {a0 : RT} {r : ByteArray} (h : ref02_Print a0 = some r) :
    Fn Try.prog 24 [.ag [.b a0.1, .sl (L a0.2.1), .sl (L a0.2.2)]] (.d (.s r)) := by
  unfold ref02_Print at h
  refine Fn.of (rs := [.tmp 2]) (nt := 26) Try.func24 rfl rfl rfl (by simp) rfl ?_
  refine .seq ?_
  refine .region ?_
  refine vk (vbx) ?_
  refine asd ?_
  refine rn ?_
  refine .gh (Gh.keep [1, 2] rfl) ?_
  refine .seq ?_
  refine .seq ?_
  refine .region ?_
  refine vk (vlda gA_R gS_R) ?_
  obtain ⟨x1, hx1, h⟩ := bnd h
  refine vk (vcl0 (ref2Right_ok hx1) Try.call20) ?_
  refine vk (vnt) ?_
  refine rn ?_
  refine .gh (Gh.keep [1, 2, 6] rfl) ?_
  by_cases hc : x1 = true
  · replace h := ite_t hc h
    refine cnf (ntf hc) ?_
    refine .skip ?_
    show AW _ _ _ _ _ _
    refine .seq ?_
    refine .region ?_
    refine vk (vfa gF_R_1) ?_
    refine vk (vldp ga_L) ?_
    obtain ⟨x2, hx2, h⟩ := bnd h
    refine vk (vcl0 (r1Print_ok hx2) Try.call79) ?_
    refine asd ?_
    refine rn ?_
    refine .gh (Gh.keep [1, 2, 3] rfl) ?_
    refine .seq ?_
    refine .seq ?_
    refine .region ?_
    refine vk (vfa gF_R_0) ?_
    refine vk (vldp ga_bool) ?_
    refine rn ?_
    refine .gh (Gh.keep [1, 2, 3, 11] rfl) ?_
    by_cases hc : a0.1 = true
    · replace h := ite_t hc h
      refine cnt hc ?_
      refine .region ?_
      refine vk (vmvd) ?_
      obtain ⟨x3, hx3, h⟩ := bnd h
      refine vk (vsa hx3) ?_
      refine asd ?_
      refine rn ?_
      refine .gh (Gh.keep [1, 2, 3] rfl) ?_
      refine .seq ?_
      refine .seq ?_
      refine .drawn 5 mixed (by kernel_rfl) ?_
      refine dv (vfa gF_R_2) ?_
      refine dv (vldp ga_L) ?_
      obtain ⟨x4, hx4, h⟩ := bnd h
      refine dv ((vcl0 (ref2One_ok hx4) Try.call69).deep) ?_
      obtain ⟨x5, hx5, h⟩ := bnd h
      refine dv (vcl0 (r1Same_ok hx5) Try.call80) ?_
      refine dv (vnt) ?_
      refine dz ?_
      refine rn ?_
      refine .gh (Gh.keep [1, 2, 3, 18] rfl) ?_
      by_cases hc : x5 = true
      · replace h := ite_t hc h
        refine cnf (ntf hc) ?_
        refine .skip ?_
        show AW _ _ _ _ _ _
        refine .seq ?_
        refine .region ?_
        refine vk (vmvd) ?_
        refine asd ?_
        refine rn ?_
        refine .gh (Gh.keep [2] rfl) ?_
        refine .ret ?_
        cases h
        exact ⟨rfl, rfl⟩
      replace h := ite_f hc h
      refine cnt (ntt (bf hc)) ?_
      refine .region ?_
      refine vk (vmvd) ?_
      refine vk (vfa gF_R_2) ?_
      refine vk (vldp ga_L) ?_
      obtain ⟨x6, hx6, h⟩ := bnd h
      refine vk (vcl0 (r1Print_ok hx6) Try.call79) ?_
      obtain ⟨x7, hx7, h⟩ := bnd h
      refine vk (vsa hx7) ?_
      obtain ⟨x8, hx8, h⟩ := bnd h
      refine vk (vsa hx8) ?_
      refine asd ?_
      refine rn ?_
      refine .gh (Gh.keep [2, 3] rfl) ?_
      refine .seq ?_
      refine .region ?_
      refine vk (vmvd) ?_
      refine asd ?_
      refine rn ?_
      refine .gh (Gh.keep [2] rfl) ?_
      refine .ret ?_
      cases h
      exact ⟨rfl, rfl⟩
    replace h := ite_f hc h
    refine cnf (bf hc) ?_
    refine .skip ?_
    show AW _ _ _ _ _ _
    refine .seq ?_
    refine .seq ?_
    refine .drawn 5 mixed (by kernel_rfl) ?_
    refine dv (vfa gF_R_2) ?_
    refine dv (vldp ga_L) ?_
    obtain ⟨x9, hx9, h⟩ := bnd h
    refine dv ((vcl0 (ref2One_ok hx9) Try.call69).deep) ?_
    obtain ⟨x10, hx10, h⟩ := bnd h
    refine dv (vcl0 (r1Same_ok hx10) Try.call80) ?_
    refine dv (vnt) ?_
    refine dz ?_
    refine rn ?_
    refine .gh (Gh.keep [1, 2, 3, 18] rfl) ?_
    by_cases hc : x10 = true
    · replace h := ite_t hc h
      refine cnf (ntf hc) ?_
      refine .skip ?_
      show AW _ _ _ _ _ _
      refine .seq ?_
      refine .region ?_
      refine vk (vmvd) ?_
      refine asd ?_
      refine rn ?_
      refine .gh (Gh.keep [2] rfl) ?_
      refine .ret ?_
      cases h
      exact ⟨rfl, rfl⟩
    replace h := ite_f hc h
    refine cnt (ntt (bf hc)) ?_
    refine .region ?_
    refine vk (vmvd) ?_
    refine vk (vfa gF_R_2) ?_
    refine vk (vldp ga_L) ?_
    obtain ⟨x11, hx11, h⟩ := bnd h
    refine vk (vcl0 (r1Print_ok hx11) Try.call79) ?_
    obtain ⟨x12, hx12, h⟩ := bnd h
    refine vk (vsa hx12) ?_
    obtain ⟨x13, hx13, h⟩ := bnd h
    refine vk (vsa hx13) ?_
    refine asd ?_
    refine rn ?_
    refine .gh (Gh.keep [2, 3] rfl) ?_
    refine .seq ?_
    refine .region ?_
    refine vk (vmvd) ?_
    refine asd ?_
    refine rn ?_
    refine .gh (Gh.keep [2] rfl) ?_
    refine .ret ?_
    cases h
    exact ⟨rfl, rfl⟩
  replace h := ite_f hc h
  refine cnt (ntt (bf hc)) ?_
  refine .seq ?_
  refine .region ?_
  refine asd ?_
  refine rn ?_
  refine .gh (Gh.keep [1, 2] rfl) ?_
  refine .ret ?_
  cases h
  exact ⟨rfl, rfl⟩

def ref02_Parse_l2 (x5 : ByteArray) (K1 : Int → Option (RT × Int)) : Nat → Int → Option (RT × Int)
  | 0, _ => none
  | k + 1, s7 => (Option.bind ((if s7 < ((ByteArray.size x5 : Nat) : Int) then ((rd? (byts x5) s7).bind fun x9 => (if ((x9 : Nat) : Int) = 46 then (some false) else ((rd? (byts x5) s7).bind fun x10 => (some (!(decide (((x10 : Nat) : Int) = 114))))))) else (some false)) : Option (Bool)) fun (z8 : Bool) => (if z8 = true then (ref02_Parse_l2 x5 K1 k (w64 (s7 + 1))) else (K1 s7)))
def ref02_Parse_l3 (z3 : Bool) (x5 : ByteArray) (x12 : (List Nat) × Bool) (x16 : (List Nat) × Bool) : Nat → (List Nat) → Int → Option (RT × Int)
  | 0, _, _ => none
  | k + 1, s22, s23 => (if s23 < ((ByteArray.size x5 : Nat) : Int) then ((r1Mul s22 ([10])).bind fun x24 => (ref02_Parse_l3 z3 x5 x12 x16 k x24 (w64 (s23 + 1)))) else ((r1Mul x12.1 s22).bind fun x25 => ((r1Add x25 x16.1).bind fun x26 => ((ref2Make z3 x26 s22).bind fun x27 => (some (x27.1, x27.2))))))
def ref02_Parse_l5 (a0 : ByteArray) (K4 : Int → Option (RT × Int)) : Nat → Int → Option (RT × Int)
  | 0, _ => none
  | k + 1, s29 => (Option.bind ((if s29 < ((ByteArray.size a0 : Nat) : Int) then ((rd? (byts a0) s29).bind fun x31 => (if ((x31 : Nat) : Int) = 46 then (some false) else ((rd? (byts a0) s29).bind fun x32 => (some (!(decide (((x32 : Nat) : Int) = 114))))))) else (some false)) : Option (Bool)) fun (z30 : Bool) => (if z30 = true then (ref02_Parse_l5 a0 K4 k (w64 (s29 + 1))) else (K4 s29)))
def ref02_Parse_l6 (a0 : ByteArray) (z3 : Bool) (x34 : (List Nat) × Bool) (x38 : (List Nat) × Bool) : Nat → (List Nat) → Int → Option (RT × Int)
  | 0, _, _ => none
  | k + 1, s44, s45 => (if s45 < ((ByteArray.size a0 : Nat) : Int) then ((r1Mul s44 ([10])).bind fun x46 => (ref02_Parse_l6 a0 z3 x34 x38 k x46 (w64 (s45 + 1)))) else ((r1Mul x34.1 s44).bind fun x47 => ((r1Add x47 x38.1).bind fun x48 => ((ref2Make z3 x48 s44).bind fun x49 => (some (x49.1, x49.2))))))
def ref02_Parse_l0 (a0 : ByteArray) : Nat → Int → Nat → Option (RT × Int)
  | 0, _, _ => none
  | k + 1, s1, s2 => (if s2 < ByteArray.size a0 then (ref02_Parse_l0 a0 k (w64 (s1 + 1)) (rnext a0 s2)) else (if 700 < s1 then (some ((false, [], []), 8)) else (Option.bind ((if 2 ≤ ((ByteArray.size a0 : Nat) : Int) then ((ss? a0 0 2).bind fun x4 => (some (decide (x4 = (⟨#[194, 175]⟩ : ByteArray))))) else (some false)) : Option (Bool)) fun (z3 : Bool) => (if z3 = true then ((ss? a0 2 ((ByteArray.size a0 : Nat) : Int)).bind fun x5 => (jn (fun (z6 : Int) => ((ss? x5 0 z6).bind fun x11 => ((r1Parse x11).bind fun x12 => (if x12.2 = true then (if z6 = ((ByteArray.size x5 : Nat) : Int) then (ref2One.bind fun x13 => ((ref2Make z3 x12.1 x13).bind fun x14 => (some (x14.1, x14.2)))) else ((ss? x5 (w64 (z6 + 1)) ((ByteArray.size x5 : Nat) : Int)).bind fun x15 => ((r1Parse x15).bind fun x16 => (Option.bind ((if x16.2 = true then ((rd? (byts x5) z6).bind fun x18 => (if ((x18 : Nat) : Int) = 114 then (some (decide (((List.length x16.1 : Nat) : Int) = 0))) else (some false))) else (some true)) : Option (Bool)) fun (z17 : Bool) => (if z17 = true then (some ((false, [], []), 22)) else ((rd? (byts x5) z6).bind fun x19 => (if ((x19 : Nat) : Int) = 114 then ((ref2Make z3 x12.1 x16.1).bind fun x20 => (some (x20.1, x20.2))) else (ref2One.bind fun x21 => (ref02_Parse_l3 z3 x5 x12 x16 FUEL x21 (w64 (z6 + 1))))))))))) else (some ((false, [], []), 22)))))) fun K1 => (ref02_Parse_l2 x5 K1 FUEL 0))) else (jn (fun (z28 : Int) => ((ss? a0 0 z28).bind fun x33 => ((r1Parse x33).bind fun x34 => (if x34.2 = true then (if z28 = ((ByteArray.size a0 : Nat) : Int) then (ref2One.bind fun x35 => ((ref2Make z3 x34.1 x35).bind fun x36 => (some (x36.1, x36.2)))) else ((ss? a0 (w64 (z28 + 1)) ((ByteArray.size a0 : Nat) : Int)).bind fun x37 => ((r1Parse x37).bind fun x38 => (Option.bind ((if x38.2 = true then ((rd? (byts a0) z28).bind fun x40 => (if ((x40 : Nat) : Int) = 114 then (some (decide (((List.length x38.1 : Nat) : Int) = 0))) else (some false))) else (some true)) : Option (Bool)) fun (z39 : Bool) => (if z39 = true then (some ((false, [], []), 22)) else ((rd? (byts a0) z28).bind fun x41 => (if ((x41 : Nat) : Int) = 114 then ((ref2Make z3 x34.1 x38.1).bind fun x42 => (some (x42.1, x42.2))) else (ref2One.bind fun x43 => (ref02_Parse_l6 a0 z3 x34 x38 FUEL x43 (w64 (z28 + 1))))))))))) else (some ((false, [], []), 22)))))) fun K4 => (ref02_Parse_l5 a0 K4 FUEL 0))))))
def ref02_Parse (a0 : ByteArray) : Option (RT × Int) := (ref02_Parse_l0 a0 FUEL 0 0)
set_option maxHeartbeats 4000000 in
theorem ref02_Parse_ok {a0 : ByteArray} {r : RT × Int} (h : ref02_Parse a0 = some r) :
    Fn Try.prog 22 [.s a0] (.tup [.d (.ag [.b r.1.1, .sl (L r.1.2.1), .sl (L r.1.2.2)]), .d (.i .i64 r.2)]) := by
  unfold ref02_Parse at h
  refine Fn.ofC (rs := [.cell 2 25, .tmp 3]) (nt := 125) Try.func22 rfl rfl rfl (by simp) rfl ?_
  refine .seq ?_
  refine .region ?_
  refine vk (van (zero_of gI_R) gZ_R) ?_
  refine asd ?_
  refine rn ?_
  refine .gh (Gh.keep [0, 2, 3] rfl) ?_
  refine .seq ?_
  refine .region ?_
  refine asd ?_
  refine rn ?_
  refine .gh (Gh.keep [0, 2, 3, 4] rfl) ?_
  refine .seq ?_
  refine .seq ?_
  refine .region ?_
  refine vk (vmvd) ?_
  refine vk (vrng st) ?_
  refine rn ?_
  refine .gh (Gh.keep [0, 2, 3, 4, 14] rfl) ?_
  refine .block ?_
  refine .loop (.gh (Gh.keep [0, 2, 3, 4, 14] rfl) ?_)
  refine AL.ind (σ := Nat × Int × Nat) (m := fun p => p.1) (e := fun p => [(0, .d (.s a0)), (2, .nb [.b false, .sl (L []), .sl (L [])]), (3, .d (.i .i64 0)), (4, .d (.i .i64 p.2.1)), (14, .it a0 p.2.2)]) (h := fun p => []) (I := fun p => ref02_Parse_l0 a0 p.1 p.2.1 p.2.2 = some r) ?_ (FUEL, 0, 0) h
  rintro ⟨k, s1, s2⟩ h ih
  dsimp only at h ih ⊢
  rcases k with _ | k
  · rw [ref02_Parse_l0] at h; cases h
  rw [ref02_Parse_l0] at h
  refine .seq ?_
  refine .region ?_
  by_cases hc : s2 < ByteArray.size a0
  · replace h := ite_t hc h
    refine nxt ?_ hc
    refine vk (vex) ?_
    refine rn ?_
    refine .gh (Gh.keep [0, 2, 3, 4, 14, 16] rfl) ?_
    refine .seq ?_
    refine cndt ?_
    refine .skip ?_
    show AW _ _ _ _ _ _
    refine .block ?_
    refine .region ?_
    refine vk (vmvd) ?_
    refine vk (vbi) ?_
    refine asd ?_
    refine .nil ?_
    refine AL.gh (Gh.keep [0, 2, 3, 4, 14] rfl) ?_
    exact ih (k, (w64 (s1 + 1)), (rnext a0 s2)) h (Nat.lt_succ_self _)
  replace h := ite_f hc h
  refine nxe ?_ hc
  refine vk (vex) ?_
  refine rn ?_
  refine .gh (Gh.keep [0, 2, 3, 4, 14, 16] rfl) ?_
  refine .seq ?_
  refine cndf ?_
  refine .exit ?_
  show AW _ _ _ _ _ _
  refine .seq ?_
  refine .seq ?_
  refine .region ?_
  refine vk (vmvd) ?_
  refine vk (vbi) ?_
  refine rn ?_
  refine .gh (Gh.keep [0, 2, 3, 20] rfl) ?_
  by_cases hc : 700 < s1
  · replace h := ite_t hc h
    refine cnt (decide_eq_true hc) ?_
    refine .seq ?_
    refine .region ?_
    refine vk (vbd gP_R gI_R gZ_R) ?_
    refine stn ?_ gS_R (by decide)
    refine asd ?_
    refine rn ?_
    refine .gh (Gh.keep [0, 2, 3] rfl) ?_
    refine .ret ?_
    cases h
    exact ⟨_, _, ⟨.inr rfl, gA_R, gS_R, (by decide : (0 : Nat) < 3)⟩, rfl, rfl⟩
  replace h := ite_f hc h
  refine cnf (decide_eq_false hc) ?_
  refine .skip ?_
  show AW _ _ _ _ _ _
  refine .seq ?_
  obtain ⟨z3, hz, h⟩ := bnd h
  refine AW.mr (σ := Unit) (fun _ => True) (fun _ => [(0, .d (.s a0)), (2, .nb [.b false, .sl (L []), .sl (L [])]), (3, .d (.i .i64 0)), (5, .d (.b z3))]) (fun _ => []) ?_ ?_
  · skip
    refine .region ?_
    refine vk (vmvd) ?_
    refine vk (vlns st) ?_
    refine vk (vbi) ?_
    by_cases hc : 2 ≤ ((ByteArray.size a0 : Nat) : Int)
    · replace hz := ite_t hc hz
      have hb0 : (decide (2 ≤ ((ByteArray.size a0 : Nat) : Int))) = true := (decide_eq_true hc)
      refine vk (VOK.lit (vmvd) hb0) ?_
      refine vk (vmvd) ?_
      obtain ⟨x4, hx4, hz⟩ := bnd hz
      refine vk (vss hx4 st) ?_
      refine vk (vsq (.inl rfl)) ?_
      refine vk (vpkd) ?_
      refine asd ?_
      refine RL.gh (Gh.keep [0, 2, 3, 5] rfl) ?_
      refine .nil ?_
      cases hz
      exact jr () trivial
    replace hz := ite_f hc hz
    have hb0 : (decide (2 ≤ ((ByteArray.size a0 : Nat) : Int))) = false := (decide_eq_false hc)
    refine vk (VOK.lit (vmvd) hb0) ?_
    refine gf ?_
    refine gf ?_
    refine gf ?_
    refine vk (vpkd) ?_
    refine asd ?_
    refine RL.gh (Gh.keep [0, 2, 3, 5] rfl) ?_
    refine .nil ?_
    cases hz
    exact jr () trivial
  rintro _ _
  refine .seq ?_
  refine .seq ?_
  refine .region ?_
  refine vk (vmvd) ?_
  refine rn ?_
  refine .gh (Gh.keep [0, 2, 3, 5, 30] rfl) ?_
  by_cases hc : z3 = true
  · replace h := ite_t hc h
    refine cnt hc ?_
    refine .region ?_
    refine vk (vmvd) ?_
    obtain ⟨x5, hx5, h⟩ := bnd h
    refine vk (vss hx5 st) ?_
    refine asd ?_
    refine rn ?_
    refine .gh (Gh.keep [0, 2, 3, 5] rfl) ?_
    refine .seq ?_
    refine .region ?_
    refine asd ?_
    refine rn ?_
    refine .gh (Gh.keep [0, 2, 3, 5, 6] rfl) ?_
    obtain ⟨K1, hK1, h⟩ := jn_out h
    refine AW.mj (σ := Int) (fun p => K1 p = some r) (fun p => [(0, .d (.s x5)), (2, .nb [.b false, .sl (L []), .sl (L [])]), (3, .d (.i .i64 0)), (5, .d (.b z3)), (6, .d (.i .i64 p))]) (fun p => []) ?_ ?_
    · skip
      refine .block ?_
      refine .loop (.gh (Gh.keep [0, 2, 3, 5, 6] rfl) ?_)
      refine AL.ind (σ := Nat × Int) (m := fun p => p.1) (e := fun p => [(0, .d (.s x5)), (2, .nb [.b false, .sl (L []), .sl (L [])]), (3, .d (.i .i64 0)), (5, .d (.b z3)), (6, .d (.i .i64 p.2))]) (h := fun p => []) (I := fun p => ref02_Parse_l2 x5 K1 p.1 p.2 = some r) ?_ (FUEL, 0) h
      rintro ⟨k, s7⟩ h ih
      dsimp only at h ih ⊢
      rcases k with _ | k
      · rw [ref02_Parse_l2] at h; cases h
      rw [ref02_Parse_l2] at h
      refine .seq ?_
      refine .seq ?_
      obtain ⟨z8, hz, h⟩ := bnd h
      refine AW.mr (σ := Unit) (fun _ => True) (fun _ => [(0, .d (.s x5)), (2, .nb [.b false, .sl (L []), .sl (L [])]), (3, .d (.i .i64 0)), (5, .d (.b z3)), (6, .d (.i .i64 s7)), (48, .d (.b z8))]) (fun _ => []) ?_ ?_
      · skip
        refine .region ?_
        refine vk (vmvd) ?_
        refine vk (vmvd) ?_
        refine vk (vlns st) ?_
        refine vk (vbi) ?_
        by_cases hc : s7 < ((ByteArray.size x5 : Nat) : Int)
        · replace hz := ite_t hc hz
          have hb0 : (decide (s7 < ((ByteArray.size x5 : Nat) : Int))) = true := (decide_eq_true hc)
          refine vk (VOK.lit (vmvd) hb0) ?_
          refine vk (vmvd) ?_
          refine vk (vmvd) ?_
          obtain ⟨x9, hx9, hz⟩ := bnd hz
          obtain ⟨nx9, hnx9, hxx9⟩ := rd_some hx9
          refine vk (vids nx9 x9 hnx9 hxx9 st) ?_
          refine vk (vbi) ?_
          refine vk (vpkd) ?_
          by_cases hc : ((x9 : Nat) : Int) = 46
          · replace hz := ite_t hc hz
            have hb1 : (!(decide (((x9 : Nat) : Int) = 46))) = false := (ntf (decide_eq_true hc))
            refine vk (VOK.lit (vmvd) hb1) ?_
            refine gf ?_
            refine gf ?_
            refine gf ?_
            refine gf ?_
            refine vk (vpkd) ?_
            refine RL.gh (Gh.keep [0, 2, 3, 5, 6, 48] rfl) ?_
            refine .nil ?_
            cases hz
            exact jr () trivial
          replace hz := ite_f hc hz
          have hb1 : (!(decide (((x9 : Nat) : Int) = 46))) = true := (ntt (decide_eq_false hc))
          refine vk (VOK.lit (vmvd) hb1) ?_
          refine vk (vmvd) ?_
          refine vk (vmvd) ?_
          obtain ⟨x10, hx10, hz⟩ := bnd hz
          obtain ⟨nx10, hnx10, hxx10⟩ := rd_some hx10
          refine vk (vids nx10 x10 hnx10 hxx10 st) ?_
          refine vk (vbi) ?_
          refine vk (vpkd) ?_
          refine RL.gh (Gh.keep [0, 2, 3, 5, 6, 48] rfl) ?_
          refine .nil ?_
          cases hz
          exact jr () trivial
        replace hz := ite_f hc hz
        have hb0 : (decide (s7 < ((ByteArray.size x5 : Nat) : Int))) = false := (decide_eq_false hc)
        refine vk (VOK.lit (vmvd) hb0) ?_
        refine gf ?_
        refine gf ?_
        refine gf ?_
        refine gf ?_
        refine vk (vpkd) ?_
        refine vk (vmvd) ?_
        refine gf ?_
        refine gf ?_
        refine gf ?_
        refine gf ?_
        refine vk (vpkd) ?_
        refine RL.gh (Gh.keep [0, 2, 3, 5, 6, 48] rfl) ?_
        refine .nil ?_
        cases hz
        exact jr () trivial
      rintro _ _
      by_cases hc : z8 = true
      · replace h := ite_t hc h
        refine cnt hc ?_
        refine .skip ?_
        show AW _ _ _ _ _ _
        refine .block ?_
        refine .region ?_
        refine vk (vmvd) ?_
        refine vk (vbi) ?_
        refine asd ?_
        refine .nil ?_
        refine AL.gh (Gh.keep [0, 2, 3, 5, 6] rfl) ?_
        exact ih (k, (w64 (s7 + 1))) h (Nat.lt_succ_self _)
      replace h := ite_f hc h
      refine cnf (bf hc) ?_
      refine .gh (Gh.keep [0, 2, 3, 5, 6] rfl) ?_
      refine .exit ?_
      exact jr (s7) h
    rintro z6 h
    try dsimp only at h ⊢
    subst hK1
    refine .seq ?_
    refine .region ?_
    refine vk (vmvd) ?_
    refine vk (vmvd) ?_
    obtain ⟨x11, hx11, h⟩ := bnd h
    refine vk (vss hx11 st) ?_
    obtain ⟨x12, hx12, h⟩ := bnd h
    refine vk (VOK.tupd (vs := [.sl (L x12.1), .b x12.2]) (vcl0 (r1Parse_ok hx12) Try.call75)) ?_
    refine vk (vmvd) ?_
    refine vk (vex) ?_
    refine vk (vex) ?_
    refine asd ?_
    refine asd ?_
    refine rn ?_
    refine .gh (Gh.keep [0, 2, 3, 5, 6, 7, 8] rfl) ?_
    refine .seq ?_
    refine .seq ?_
    refine .region ?_
    refine vk (vmvd) ?_
    refine vk (vnt) ?_
    refine rn ?_
    refine .gh (Gh.keep [0, 2, 3, 5, 6, 7, 59] rfl) ?_
    by_cases hc : x12.2 = true
    · replace h := ite_t hc h
      refine cnf (ntf hc) ?_
      refine .skip ?_
      show AW _ _ _ _ _ _
      refine .seq ?_
      refine .seq ?_
      refine .region ?_
      refine vk (vmvd) ?_
      refine vk (vmvd) ?_
      refine vk (vlns st) ?_
      refine vk (vbi) ?_
      refine rn ?_
      refine .gh (Gh.keep [0, 2, 3, 5, 6, 7, 64] rfl) ?_
      by_cases hc : z6 = ((ByteArray.size x5 : Nat) : Int)
      · replace h := ite_t hc h
        refine cnt (decide_eq_true hc) ?_
        refine .seq ?_
        refine .region ?_
        refine vk (vmvd) ?_
        refine vk (vmvd) ?_
        obtain ⟨x13, hx13, h⟩ := bnd h
        refine vk ((vcl0 (ref2One_ok hx13) Try.call69).deep) ?_
        obtain ⟨x14, hx14, h⟩ := bnd h
        refine vk (VOK.tupd (vs := [.ag [.b x14.1.1, .sl (L x14.1.2.1), .sl (L x14.1.2.2)], .i .i64 x14.2]) (vcl0 (ref2Make_ok hx14) Try.call17)) ?_
        refine vk (vex) ?_
        refine vk (vex) ?_
        refine stn ?_ gS_R (by decide)
        refine asd ?_
        refine rn ?_
        refine .gh (Gh.keep [0, 2, 3, 5, 6, 7] rfl) ?_
        refine .ret ?_
        cases h
        exact ⟨_, _, ⟨.inr rfl, gA_R, gS_R, (by decide : (0 : Nat) < 3)⟩, rfl, rfl⟩
      replace h := ite_f hc h
      refine cnf (decide_eq_false hc) ?_
      refine .skip ?_
      show AW _ _ _ _ _ _
      refine .seq ?_
      refine .region ?_
      refine vk (vmvd) ?_
      refine vk (vmvd) ?_
      refine vk (vbi) ?_
      obtain ⟨x15, hx15, h⟩ := bnd h
      refine vk (vss hx15 st) ?_
      obtain ⟨x16, hx16, h⟩ := bnd h
      refine vk (VOK.tupd (vs := [.sl (L x16.1), .b x16.2]) (vcl0 (r1Parse_ok hx16) Try.call75)) ?_
      refine vk (vmvd) ?_
      refine vk (vex) ?_
      refine vk (vex) ?_
      refine asd ?_
      refine asd ?_
      refine rn ?_
      refine .gh (Gh.keep [0, 2, 3, 5, 6, 7, 9, 10] rfl) ?_
      refine .seq ?_
      refine .seq ?_
      obtain ⟨z17, hz, h⟩ := bnd h
      refine AW.mr (σ := Unit) (fun _ => True) (fun _ => [(0, .d (.s x5)), (2, .nb [.b false, .sl (L []), .sl (L [])]), (3, .d (.i .i64 0)), (5, .d (.b z3)), (6, .d (.i .i64 z6)), (7, .d (.sl (L x12.1))), (9, .d (.sl (L x16.1))), (91, .d (.b z17))]) (fun _ => []) ?_ ?_
      · skip
        refine .region ?_
        refine vk (vmvd) ?_
        refine vk (vnt) ?_
        by_cases hc : x16.2 = true
        · replace hz := ite_t hc hz
          have hb0 : (!x16.2) = false := (ntf hc)
          refine vk (VOK.lit (vmvd) hb0) ?_
          refine vk (vmvd) ?_
          refine vk (vmvd) ?_
          obtain ⟨x18, hx18, hz⟩ := bnd hz
          obtain ⟨nx18, hnx18, hxx18⟩ := rd_some hx18
          refine vk (vids nx18 x18 hnx18 hxx18 st) ?_
          refine vk (vbi) ?_
          by_cases hc : ((x18 : Nat) : Int) = 114
          · replace hz := ite_t hc hz
            have hb1 : (decide (((x18 : Nat) : Int) = 114)) = true := (decide_eq_true hc)
            refine vk (VOK.lit (vmvd) hb1) ?_
            refine vk (vmvd) ?_
            refine vk (vlnE (L_length _) (L_sz _) gu_L) ?_
            refine vk (vbi) ?_
            refine vk (vpkd) ?_
            refine vk (vpkd) ?_
            refine RL.gh (Gh.keep [0, 2, 3, 5, 6, 7, 9, 91] rfl) ?_
            refine .nil ?_
            cases hz
            exact jr () trivial
          replace hz := ite_f hc hz
          have hb1 : (decide (((x18 : Nat) : Int) = 114)) = false := (decide_eq_false hc)
          refine vk (VOK.lit (vmvd) hb1) ?_
          refine gf ?_
          refine gf ?_
          refine gf ?_
          refine vk (vpkd) ?_
          refine vk (vpkd) ?_
          refine RL.gh (Gh.keep [0, 2, 3, 5, 6, 7, 9, 91] rfl) ?_
          refine .nil ?_
          cases hz
          exact jr () trivial
        replace hz := ite_f hc hz
        have hb0 : (!x16.2) = true := (ntt (bf hc))
        refine vk (VOK.lit (vmvd) hb0) ?_
        refine gf ?_
        refine gf ?_
        refine gf ?_
        refine gf ?_
        refine gfu ?_
        refine gf ?_
        refine gf ?_
        refine gf ?_
        refine gf ?_
        refine vk (vpkd) ?_
        refine RL.gh (Gh.keep [0, 2, 3, 5, 6, 7, 9, 91] rfl) ?_
        refine .nil ?_
        cases hz
        exact jr () trivial
      rintro _ _
      by_cases hc : z17 = true
      · replace h := ite_t hc h
        refine cnt hc ?_
        refine .seq ?_
        refine .region ?_
        refine vk (vbd gP_R gI_R gZ_R) ?_
        refine stn ?_ gS_R (by decide)
        refine asd ?_
        refine rn ?_
        refine .gh (Gh.keep [0, 2, 3, 5, 6, 7, 9] rfl) ?_
        refine .ret ?_
        cases h
        exact ⟨_, _, ⟨.inr rfl, gA_R, gS_R, (by decide : (0 : Nat) < 3)⟩, rfl, rfl⟩
      replace h := ite_f hc h
      refine cnf (bf hc) ?_
      refine .skip ?_
      show AW _ _ _ _ _ _
      refine .seq ?_
      refine .seq ?_
      refine .region ?_
      refine vk (vmvd) ?_
      refine vk (vmvd) ?_
      obtain ⟨x19, hx19, h⟩ := bnd h
      obtain ⟨nx19, hnx19, hxx19⟩ := rd_some hx19
      refine vk (vids nx19 x19 hnx19 hxx19 st) ?_
      refine vk (vbi) ?_
      refine rn ?_
      refine .gh (Gh.keep [0, 2, 3, 5, 6, 7, 9, 96] rfl) ?_
      by_cases hc : ((x19 : Nat) : Int) = 114
      · replace h := ite_t hc h
        refine cnt (decide_eq_true hc) ?_
        refine .seq ?_
        refine .region ?_
        refine vk (vmvd) ?_
        refine vk (vmvd) ?_
        refine vk (vmvd) ?_
        obtain ⟨x20, hx20, h⟩ := bnd h
        refine vk (VOK.tupd (vs := [.ag [.b x20.1.1, .sl (L x20.1.2.1), .sl (L x20.1.2.2)], .i .i64 x20.2]) (vcl0 (ref2Make_ok hx20) Try.call17)) ?_
        refine vk (vex) ?_
        refine vk (vex) ?_
        refine stn ?_ gS_R (by decide)
        refine asd ?_
        refine rn ?_
        refine .gh (Gh.keep [0, 2, 3, 5, 6, 7, 9] rfl) ?_
        refine .ret ?_
        cases h
        exact ⟨_, _, ⟨.inr rfl, gA_R, gS_R, (by decide : (0 : Nat) < 3)⟩, rfl, rfl⟩
      replace h := ite_f hc h
      refine cnf (decide_eq_false hc) ?_
      refine .skip ?_
      show AW _ _ _ _ _ _
      refine .seq ?_
      refine .region ?_
      obtain ⟨x21, hx21, h⟩ := bnd h
      refine vk ((vcl0 (ref2One_ok hx21) Try.call69).deep) ?_
      refine asd ?_
      refine rn ?_
      refine .gh (Gh.keep [0, 2, 3, 5, 6, 7, 9, 11] rfl) ?_
      refine .seq ?_
      refine .seq ?_
      refine .region ?_
      refine vk (vmvd) ?_
      refine vk (vbi) ?_
      refine asd ?_
      refine rn ?_
      refine .gh (Gh.keep [0, 2, 3, 5, 7, 9, 11, 12] rfl) ?_
      refine .block ?_
      refine .loop (.gh (Gh.keep [0, 2, 3, 5, 7, 9, 11, 12] rfl) ?_)
      refine AL.ind (σ := Nat × (List Nat) × Int) (m := fun p => p.1) (e := fun p => [(0, .d (.s x5)), (2, .nb [.b false, .sl (L []), .sl (L [])]), (3, .d (.i .i64 0)), (5, .d (.b z3)), (7, .d (.sl (L x12.1))), (9, .d (.sl (L x16.1))), (11, .d (.sl (L p.2.1))), (12, .d (.i .i64 p.2.2))]) (h := fun p => []) (I := fun p => ref02_Parse_l3 z3 x5 x12 x16 p.1 p.2.1 p.2.2 = some r) ?_ (FUEL, x21, (w64 (z6 + 1))) h
      rintro ⟨k, s22, s23⟩ h ih
      dsimp only at h ih ⊢
      rcases k with _ | k
      · rw [ref02_Parse_l3] at h; cases h
      rw [ref02_Parse_l3] at h
      refine .seq ?_
      refine .seq ?_
      refine .region ?_
      refine vk (vmvd) ?_
      refine vk (vmvd) ?_
      refine vk (vlns st) ?_
      refine vk (vbi) ?_
      refine rn ?_
      refine .gh (Gh.keep [0, 2, 3, 5, 7, 9, 11, 12, 109] rfl) ?_
      by_cases hc : s23 < ((ByteArray.size x5 : Nat) : Int)
      · replace h := ite_t hc h
        refine cnt (decide_eq_true hc) ?_
        refine .skip ?_
        show AW _ _ _ _ _ _
        refine .seq ?_
        refine .block ?_
        refine .region ?_
        refine vk (vmvd) ?_
        refine vk ((vbsl (L_flat [10]) ge_L).deep) ?_
        obtain ⟨x24, hx24, h⟩ := bnd h
        refine vk ((vcl0 (r1Mul_ok hx24) Try.call76).deep) ?_
        refine asd ?_
        refine .nil ?_
        show AW _ _ _ _ _ _
        refine .gh (Gh.keep [0, 2, 3, 5, 7, 9, 11, 12] rfl) ?_
        refine .region ?_
        refine vk (vmvd) ?_
        refine vk (vbi) ?_
        refine asd ?_
        refine .nil ?_
        refine AL.gh (Gh.keep [0, 2, 3, 5, 7, 9, 11, 12] rfl) ?_
        exact ih (k, x24, (w64 (s23 + 1))) h (Nat.lt_succ_self _)
      replace h := ite_f hc h
      refine cnf (decide_eq_false hc) ?_
      refine .exit ?_
      show AW _ _ _ _ _ _
      refine .seq ?_
      refine .region ?_
      refine vk (vmvd) ?_
      refine vk (vmvd) ?_
      refine vk (vmvd) ?_
      obtain ⟨x25, hx25, h⟩ := bnd h
      refine vk ((vcl0 (r1Mul_ok hx25) Try.call76).deep) ?_
      refine vk (vmvd) ?_
      obtain ⟨x26, hx26, h⟩ := bnd h
      refine vk ((vcl0 (r1Add_ok hx26) Try.call77).deep) ?_
      refine vk (vmvd) ?_
      obtain ⟨x27, hx27, h⟩ := bnd h
      refine vk (VOK.tupd (vs := [.ag [.b x27.1.1, .sl (L x27.1.2.1), .sl (L x27.1.2.2)], .i .i64 x27.2]) (vcl0 (ref2Make_ok hx27) Try.call17)) ?_
      refine vk (vex) ?_
      refine vk (vex) ?_
      refine stn ?_ gS_R (by decide)
      refine asd ?_
      refine rn ?_
      refine .gh (Gh.keep [2, 3] rfl) ?_
      refine .ret ?_
      cases h
      exact ⟨_, _, ⟨.inr rfl, gA_R, gS_R, (by decide : (0 : Nat) < 3)⟩, rfl, rfl⟩
    replace h := ite_f hc h
    refine cnt (ntt (bf hc)) ?_
    refine .seq ?_
    refine .region ?_
    refine vk (vbd gP_R gI_R gZ_R) ?_
    refine stn ?_ gS_R (by decide)
    refine asd ?_
    refine rn ?_
    refine .gh (Gh.keep [0, 2, 3, 5, 6, 7] rfl) ?_
    refine .ret ?_
    cases h
    exact ⟨_, _, ⟨.inr rfl, gA_R, gS_R, (by decide : (0 : Nat) < 3)⟩, rfl, rfl⟩
  replace h := ite_f hc h
  refine cnf (bf hc) ?_
  refine .skip ?_
  show AW _ _ _ _ _ _
  refine .seq ?_
  refine .region ?_
  refine asd ?_
  refine rn ?_
  refine .gh (Gh.keep [0, 2, 3, 5, 6] rfl) ?_
  obtain ⟨K4, hK4, h⟩ := jn_out h
  refine AW.mj (σ := Int) (fun p => K4 p = some r) (fun p => [(0, .d (.s a0)), (2, .nb [.b false, .sl (L []), .sl (L [])]), (3, .d (.i .i64 0)), (5, .d (.b z3)), (6, .d (.i .i64 p))]) (fun p => []) ?_ ?_
  · skip
    refine .block ?_
    refine .loop (.gh (Gh.keep [0, 2, 3, 5, 6] rfl) ?_)
    refine AL.ind (σ := Nat × Int) (m := fun p => p.1) (e := fun p => [(0, .d (.s a0)), (2, .nb [.b false, .sl (L []), .sl (L [])]), (3, .d (.i .i64 0)), (5, .d (.b z3)), (6, .d (.i .i64 p.2))]) (h := fun p => []) (I := fun p => ref02_Parse_l5 a0 K4 p.1 p.2 = some r) ?_ (FUEL, 0) h
    rintro ⟨k, s29⟩ h ih
    dsimp only at h ih ⊢
    rcases k with _ | k
    · rw [ref02_Parse_l5] at h; cases h
    rw [ref02_Parse_l5] at h
    refine .seq ?_
    refine .seq ?_
    obtain ⟨z30, hz, h⟩ := bnd h
    refine AW.mr (σ := Unit) (fun _ => True) (fun _ => [(0, .d (.s a0)), (2, .nb [.b false, .sl (L []), .sl (L [])]), (3, .d (.i .i64 0)), (5, .d (.b z3)), (6, .d (.i .i64 s29)), (48, .d (.b z30))]) (fun _ => []) ?_ ?_
    · skip
      refine .region ?_
      refine vk (vmvd) ?_
      refine vk (vmvd) ?_
      refine vk (vlns st) ?_
      refine vk (vbi) ?_
      by_cases hc : s29 < ((ByteArray.size a0 : Nat) : Int)
      · replace hz := ite_t hc hz
        have hb0 : (decide (s29 < ((ByteArray.size a0 : Nat) : Int))) = true := (decide_eq_true hc)
        refine vk (VOK.lit (vmvd) hb0) ?_
        refine vk (vmvd) ?_
        refine vk (vmvd) ?_
        obtain ⟨x31, hx31, hz⟩ := bnd hz
        obtain ⟨nx31, hnx31, hxx31⟩ := rd_some hx31
        refine vk (vids nx31 x31 hnx31 hxx31 st) ?_
        refine vk (vbi) ?_
        refine vk (vpkd) ?_
        by_cases hc : ((x31 : Nat) : Int) = 46
        · replace hz := ite_t hc hz
          have hb1 : (!(decide (((x31 : Nat) : Int) = 46))) = false := (ntf (decide_eq_true hc))
          refine vk (VOK.lit (vmvd) hb1) ?_
          refine gf ?_
          refine gf ?_
          refine gf ?_
          refine gf ?_
          refine vk (vpkd) ?_
          refine RL.gh (Gh.keep [0, 2, 3, 5, 6, 48] rfl) ?_
          refine .nil ?_
          cases hz
          exact jr () trivial
        replace hz := ite_f hc hz
        have hb1 : (!(decide (((x31 : Nat) : Int) = 46))) = true := (ntt (decide_eq_false hc))
        refine vk (VOK.lit (vmvd) hb1) ?_
        refine vk (vmvd) ?_
        refine vk (vmvd) ?_
        obtain ⟨x32, hx32, hz⟩ := bnd hz
        obtain ⟨nx32, hnx32, hxx32⟩ := rd_some hx32
        refine vk (vids nx32 x32 hnx32 hxx32 st) ?_
        refine vk (vbi) ?_
        refine vk (vpkd) ?_
        refine RL.gh (Gh.keep [0, 2, 3, 5, 6, 48] rfl) ?_
        refine .nil ?_
        cases hz
        exact jr () trivial
      replace hz := ite_f hc hz
      have hb0 : (decide (s29 < ((ByteArray.size a0 : Nat) : Int))) = false := (decide_eq_false hc)
      refine vk (VOK.lit (vmvd) hb0) ?_
      refine gf ?_
      refine gf ?_
      refine gf ?_
      refine gf ?_
      refine vk (vpkd) ?_
      refine vk (vmvd) ?_
      refine gf ?_
      refine gf ?_
      refine gf ?_
      refine gf ?_
      refine vk (vpkd) ?_
      refine RL.gh (Gh.keep [0, 2, 3, 5, 6, 48] rfl) ?_
      refine .nil ?_
      cases hz
      exact jr () trivial
    rintro _ _
    by_cases hc : z30 = true
    · replace h := ite_t hc h
      refine cnt hc ?_
      refine .skip ?_
      show AW _ _ _ _ _ _
      refine .block ?_
      refine .region ?_
      refine vk (vmvd) ?_
      refine vk (vbi) ?_
      refine asd ?_
      refine .nil ?_
      refine AL.gh (Gh.keep [0, 2, 3, 5, 6] rfl) ?_
      exact ih (k, (w64 (s29 + 1))) h (Nat.lt_succ_self _)
    replace h := ite_f hc h
    refine cnf (bf hc) ?_
    refine .gh (Gh.keep [0, 2, 3, 5, 6] rfl) ?_
    refine .exit ?_
    exact jr (s29) h
  rintro z28 h
  try dsimp only at h ⊢
  subst hK4
  refine .seq ?_
  refine .region ?_
  refine vk (vmvd) ?_
  refine vk (vmvd) ?_
  obtain ⟨x33, hx33, h⟩ := bnd h
  refine vk (vss hx33 st) ?_
  obtain ⟨x34, hx34, h⟩ := bnd h
  refine vk (VOK.tupd (vs := [.sl (L x34.1), .b x34.2]) (vcl0 (r1Parse_ok hx34) Try.call75)) ?_
  refine vk (vmvd) ?_
  refine vk (vex) ?_
  refine vk (vex) ?_
  refine asd ?_
  refine asd ?_
  refine rn ?_
  refine .gh (Gh.keep [0, 2, 3, 5, 6, 7, 8] rfl) ?_
  refine .seq ?_
  refine .seq ?_
  refine .region ?_
  refine vk (vmvd) ?_
  refine vk (vnt) ?_
  refine rn ?_
  refine .gh (Gh.keep [0, 2, 3, 5, 6, 7, 59] rfl) ?_
  by_cases hc : x34.2 = true
  · replace h := ite_t hc h
    refine cnf (ntf hc) ?_
    refine .skip ?_
    show AW _ _ _ _ _ _
    refine .seq ?_
    refine .seq ?_
    refine .region ?_
    refine vk (vmvd) ?_
    refine vk (vmvd) ?_
    refine vk (vlns st) ?_
    refine vk (vbi) ?_
    refine rn ?_
    refine .gh (Gh.keep [0, 2, 3, 5, 6, 7, 64] rfl) ?_
    by_cases hc : z28 = ((ByteArray.size a0 : Nat) : Int)
    · replace h := ite_t hc h
      refine cnt (decide_eq_true hc) ?_
      refine .seq ?_
      refine .region ?_
      refine vk (vmvd) ?_
      refine vk (vmvd) ?_
      obtain ⟨x35, hx35, h⟩ := bnd h
      refine vk ((vcl0 (ref2One_ok hx35) Try.call69).deep) ?_
      obtain ⟨x36, hx36, h⟩ := bnd h
      refine vk (VOK.tupd (vs := [.ag [.b x36.1.1, .sl (L x36.1.2.1), .sl (L x36.1.2.2)], .i .i64 x36.2]) (vcl0 (ref2Make_ok hx36) Try.call17)) ?_
      refine vk (vex) ?_
      refine vk (vex) ?_
      refine stn ?_ gS_R (by decide)
      refine asd ?_
      refine rn ?_
      refine .gh (Gh.keep [0, 2, 3, 5, 6, 7] rfl) ?_
      refine .ret ?_
      cases h
      exact ⟨_, _, ⟨.inr rfl, gA_R, gS_R, (by decide : (0 : Nat) < 3)⟩, rfl, rfl⟩
    replace h := ite_f hc h
    refine cnf (decide_eq_false hc) ?_
    refine .skip ?_
    show AW _ _ _ _ _ _
    refine .seq ?_
    refine .region ?_
    refine vk (vmvd) ?_
    refine vk (vmvd) ?_
    refine vk (vbi) ?_
    obtain ⟨x37, hx37, h⟩ := bnd h
    refine vk (vss hx37 st) ?_
    obtain ⟨x38, hx38, h⟩ := bnd h
    refine vk (VOK.tupd (vs := [.sl (L x38.1), .b x38.2]) (vcl0 (r1Parse_ok hx38) Try.call75)) ?_
    refine vk (vmvd) ?_
    refine vk (vex) ?_
    refine vk (vex) ?_
    refine asd ?_
    refine asd ?_
    refine rn ?_
    refine .gh (Gh.keep [0, 2, 3, 5, 6, 7, 9, 10] rfl) ?_
    refine .seq ?_
    refine .seq ?_
    obtain ⟨z39, hz, h⟩ := bnd h
    refine AW.mr (σ := Unit) (fun _ => True) (fun _ => [(0, .d (.s a0)), (2, .nb [.b false, .sl (L []), .sl (L [])]), (3, .d (.i .i64 0)), (5, .d (.b z3)), (6, .d (.i .i64 z28)), (7, .d (.sl (L x34.1))), (9, .d (.sl (L x38.1))), (91, .d (.b z39))]) (fun _ => []) ?_ ?_
    · skip
      refine .region ?_
      refine vk (vmvd) ?_
      refine vk (vnt) ?_
      by_cases hc : x38.2 = true
      · replace hz := ite_t hc hz
        have hb0 : (!x38.2) = false := (ntf hc)
        refine vk (VOK.lit (vmvd) hb0) ?_
        refine vk (vmvd) ?_
        refine vk (vmvd) ?_
        obtain ⟨x40, hx40, hz⟩ := bnd hz
        obtain ⟨nx40, hnx40, hxx40⟩ := rd_some hx40
        refine vk (vids nx40 x40 hnx40 hxx40 st) ?_
        refine vk (vbi) ?_
        by_cases hc : ((x40 : Nat) : Int) = 114
        · replace hz := ite_t hc hz
          have hb1 : (decide (((x40 : Nat) : Int) = 114)) = true := (decide_eq_true hc)
          refine vk (VOK.lit (vmvd) hb1) ?_
          refine vk (vmvd) ?_
          refine vk (vlnE (L_length _) (L_sz _) gu_L) ?_
          refine vk (vbi) ?_
          refine vk (vpkd) ?_
          refine vk (vpkd) ?_
          refine RL.gh (Gh.keep [0, 2, 3, 5, 6, 7, 9, 91] rfl) ?_
          refine .nil ?_
          cases hz
          exact jr () trivial
        replace hz := ite_f hc hz
        have hb1 : (decide (((x40 : Nat) : Int) = 114)) = false := (decide_eq_false hc)
        refine vk (VOK.lit (vmvd) hb1) ?_
        refine gf ?_
        refine gf ?_
        refine gf ?_
        refine vk (vpkd) ?_
        refine vk (vpkd) ?_
        refine RL.gh (Gh.keep [0, 2, 3, 5, 6, 7, 9, 91] rfl) ?_
        refine .nil ?_
        cases hz
        exact jr () trivial
      replace hz := ite_f hc hz
      have hb0 : (!x38.2) = true := (ntt (bf hc))
      refine vk (VOK.lit (vmvd) hb0) ?_
      refine gf ?_
      refine gf ?_
      refine gf ?_
      refine gf ?_
      refine gfu ?_
      refine gf ?_
      refine gf ?_
      refine gf ?_
      refine gf ?_
      refine vk (vpkd) ?_
      refine RL.gh (Gh.keep [0, 2, 3, 5, 6, 7, 9, 91] rfl) ?_
      refine .nil ?_
      cases hz
      exact jr () trivial
    rintro _ _
    by_cases hc : z39 = true
    · replace h := ite_t hc h
      refine cnt hc ?_
      refine .seq ?_
      refine .region ?_
      refine vk (vbd gP_R gI_R gZ_R) ?_
      refine stn ?_ gS_R (by decide)
      refine asd ?_
      refine rn ?_
      refine .gh (Gh.keep [0, 2, 3, 5, 6, 7, 9] rfl) ?_
      refine .ret ?_
      cases h
      exact ⟨_, _, ⟨.inr rfl, gA_R, gS_R, (by decide : (0 : Nat) < 3)⟩, rfl, rfl⟩
    replace h := ite_f hc h
    refine cnf (bf hc) ?_
    refine .skip ?_
    show AW _ _ _ _ _ _
    refine .seq ?_
    refine .seq ?_
    refine .region ?_
    refine vk (vmvd) ?_
    refine vk (vmvd) ?_
    obtain ⟨x41, hx41, h⟩ := bnd h
    obtain ⟨nx41, hnx41, hxx41⟩ := rd_some hx41
    refine vk (vids nx41 x41 hnx41 hxx41 st) ?_
    refine vk (vbi) ?_
    refine rn ?_
    refine .gh (Gh.keep [0, 2, 3, 5, 6, 7, 9, 96] rfl) ?_
    by_cases hc : ((x41 : Nat) : Int) = 114
    · replace h := ite_t hc h
      refine cnt (decide_eq_true hc) ?_
      refine .seq ?_
      refine .region ?_
      refine vk (vmvd) ?_
      refine vk (vmvd) ?_
      refine vk (vmvd) ?_
      obtain ⟨x42, hx42, h⟩ := bnd h
      refine vk (VOK.tupd (vs := [.ag [.b x42.1.1, .sl (L x42.1.2.1), .sl (L x42.1.2.2)], .i .i64 x42.2]) (vcl0 (ref2Make_ok hx42) Try.call17)) ?_
      refine vk (vex) ?_
      refine vk (vex) ?_
      refine stn ?_ gS_R (by decide)
      refine asd ?_
      refine rn ?_
      refine .gh (Gh.keep [0, 2, 3, 5, 6, 7, 9] rfl) ?_
      refine .ret ?_
      cases h
      exact ⟨_, _, ⟨.inr rfl, gA_R, gS_R, (by decide : (0 : Nat) < 3)⟩, rfl, rfl⟩
    replace h := ite_f hc h
    refine cnf (decide_eq_false hc) ?_
    refine .skip ?_
    show AW _ _ _ _ _ _
    refine .seq ?_
    refine .region ?_
    obtain ⟨x43, hx43, h⟩ := bnd h
    refine vk ((vcl0 (ref2One_ok hx43) Try.call69).deep) ?_
    refine asd ?_
    refine rn ?_
    refine .gh (Gh.keep [0, 2, 3, 5, 6, 7, 9, 11] rfl) ?_
    refine .seq ?_
    refine .seq ?_
    refine .region ?_
    refine vk (vmvd) ?_
    refine vk (vbi) ?_
    refine asd ?_
    refine rn ?_
    refine .gh (Gh.keep [0, 2, 3, 5, 7, 9, 11, 12] rfl) ?_
    refine .block ?_
    refine .loop (.gh (Gh.keep [0, 2, 3, 5, 7, 9, 11, 12] rfl) ?_)
    refine AL.ind (σ := Nat × (List Nat) × Int) (m := fun p => p.1) (e := fun p => [(0, .d (.s a0)), (2, .nb [.b false, .sl (L []), .sl (L [])]), (3, .d (.i .i64 0)), (5, .d (.b z3)), (7, .d (.sl (L x34.1))), (9, .d (.sl (L x38.1))), (11, .d (.sl (L p.2.1))), (12, .d (.i .i64 p.2.2))]) (h := fun p => []) (I := fun p => ref02_Parse_l6 a0 z3 x34 x38 p.1 p.2.1 p.2.2 = some r) ?_ (FUEL, x43, (w64 (z28 + 1))) h
    rintro ⟨k, s44, s45⟩ h ih
    dsimp only at h ih ⊢
    rcases k with _ | k
    · rw [ref02_Parse_l6] at h; cases h
    rw [ref02_Parse_l6] at h
    refine .seq ?_
    refine .seq ?_
    refine .region ?_
    refine vk (vmvd) ?_
    refine vk (vmvd) ?_
    refine vk (vlns st) ?_
    refine vk (vbi) ?_
    refine rn ?_
    refine .gh (Gh.keep [0, 2, 3, 5, 7, 9, 11, 12, 109] rfl) ?_
    by_cases hc : s45 < ((ByteArray.size a0 : Nat) : Int)
    · replace h := ite_t hc h
      refine cnt (decide_eq_true hc) ?_
      refine .skip ?_
      show AW _ _ _ _ _ _
      refine .seq ?_
      refine .block ?_
      refine .region ?_
      refine vk (vmvd) ?_
      refine vk ((vbsl (L_flat [10]) ge_L).deep) ?_
      obtain ⟨x46, hx46, h⟩ := bnd h
      refine vk ((vcl0 (r1Mul_ok hx46) Try.call76).deep) ?_
      refine asd ?_
      refine .nil ?_
      show AW _ _ _ _ _ _
      refine .gh (Gh.keep [0, 2, 3, 5, 7, 9, 11, 12] rfl) ?_
      refine .region ?_
      refine vk (vmvd) ?_
      refine vk (vbi) ?_
      refine asd ?_
      refine .nil ?_
      refine AL.gh (Gh.keep [0, 2, 3, 5, 7, 9, 11, 12] rfl) ?_
      exact ih (k, x46, (w64 (s45 + 1))) h (Nat.lt_succ_self _)
    replace h := ite_f hc h
    refine cnf (decide_eq_false hc) ?_
    refine .exit ?_
    show AW _ _ _ _ _ _
    refine .seq ?_
    refine .region ?_
    refine vk (vmvd) ?_
    refine vk (vmvd) ?_
    refine vk (vmvd) ?_
    obtain ⟨x47, hx47, h⟩ := bnd h
    refine vk ((vcl0 (r1Mul_ok hx47) Try.call76).deep) ?_
    refine vk (vmvd) ?_
    obtain ⟨x48, hx48, h⟩ := bnd h
    refine vk ((vcl0 (r1Add_ok hx48) Try.call77).deep) ?_
    refine vk (vmvd) ?_
    obtain ⟨x49, hx49, h⟩ := bnd h
    refine vk (VOK.tupd (vs := [.ag [.b x49.1.1, .sl (L x49.1.2.1), .sl (L x49.1.2.2)], .i .i64 x49.2]) (vcl0 (ref2Make_ok hx49) Try.call17)) ?_
    refine vk (vex) ?_
    refine vk (vex) ?_
    refine stn ?_ gS_R (by decide)
    refine asd ?_
    refine rn ?_
    refine .gh (Gh.keep [2, 3] rfl) ?_
    refine .ret ?_
    cases h
    exact ⟨_, _, ⟨.inr rfl, gA_R, gS_R, (by decide : (0 : Nat) < 3)⟩, rfl, rfl⟩
  replace h := ite_f hc h
  refine cnt (ntt (bf hc)) ?_
  refine .seq ?_
  refine .region ?_
  refine vk (vbd gP_R gI_R gZ_R) ?_
  refine stn ?_ gS_R (by decide)
  refine asd ?_
  refine rn ?_
  refine .gh (Gh.keep [0, 2, 3, 5, 6, 7] rfl) ?_
  refine .ret ?_
  cases h
  exact ⟨_, _, ⟨.inr rfl, gA_R, gS_R, (by decide : (0 : Nat) < 3)⟩, rfl, rfl⟩
end Go.FL
/-
  GP: glyphref02: comparison by a tolerance.
-/
namespace Go.FL
open Go Go.Proofs

end Go.FL
/-
  Plain facts of texts: a text cut at its first point or r, character by character.
-/
namespace Go.FL
open Go Go.Proofs

/-- v is u with what is beyond ASCII written anew. -/
inductive Enc : List Nat → List Nat → Prop
  | nil : Enc [] []
  | one {b : Nat} {u v : List Nat} (h : b < 128) (r : Enc u v) : Enc (b :: u) (b :: v)
  | big {h e u v : List Nat} (h1 : h ≠ []) (h2 : e ≠ []) (h3 : ∀ x ∈ h, 128 ≤ x) (h4 : ∀ x ∈ e, 128 ≤ x) (h5 : e.length ≤ 4) (r : Enc u v) : Enc (h ++ u) (e ++ v)
theorem pv_bad {c : Nat} {r : List Nat} {n : Nat} (h : 128 ≤ c) : pv (c :: r) n = none := by
  simp only [pv]; rw [if_neg (by omega)]
theorem Enc.pv {u v : List Nat} (h : Enc u v) : ∀ n, pv u n = pv v n := by
  induction h with
  | nil => exact fun _ => rfl
  | one hb _ ih =>
    intro n
    simp only [Go.FL.pv, ih]
  | @big h e u v h1 h2 h3 h4 _ _ _ =>
    intro n
    match h, h1 with
    | x :: h, _ =>
      match e, h2 with
      | y :: e, _ => rw [List.cons_append, List.cons_append, pv_bad (h3 x (by simp)), pv_bad (h4 y (by simp))]
theorem Enc.empty {u v : List Nat} (h : Enc u v) : u.isEmpty = v.isEmpty := by
  cases h with
  | nil => rfl
  | one => rfl
  | @big h e u v h1 h2 _ _ _ _ =>
    match h, h1, e, h2 with
    | x :: h, _, y :: e, _ => rfl
theorem Enc.len {u v : List Nat} (h : Enc u v) : v.length ≤ 4 * u.length := by
  induction h with
  | nil => exact Nat.zero_le _
  | one _ _ ih => simp only [List.length_cons]; omega
  | big h1 _ _ _ h5 _ ih =>
    have := List.length_pos_iff.2 h1
    simp only [List.length_append]; omega
theorem Enc.ascii {u v : List Nat} (h : Enc u v) (hu : ∀ x ∈ u, x < 128) : v = u := by
  induction h with
  | nil => rfl
  | one _ _ ih => rw [ih fun x hx => hu x (by simp [hx])]
  | @big h e u v h1 _ h3 _ _ _ _ =>
    exfalso
    match h, h1 with
    | x :: h, _ => have := hu x (by simp); have := h3 x (by simp); omega
theorem Enc.par {u v : List Nat} (h : Enc u v) : parN v = parN u ∧ parOK v = parOK u := by
  unfold parN parOK
  rw [h.pv, h.empty]; exact ⟨rfl, rfl⟩
theorem pv_digs : ∀ {u : List Nat} {n m : Nat}, pv u n = some m → ∀ x ∈ u, 48 ≤ x ∧ x ≤ 57
  | [], _, _, _, x, hx => by cases hx
  | c :: r, n, m, h, x, hx => by
    simp only [pv] at h
    split at h
    · rename_i hc
      rcases List.mem_cons.1 hx with rfl | hx
      · omega
      · exact pv_digs h x hx
    · cases h
theorem parOK_dig {u : List Nat} (h : parOK u = true) : ∀ x ∈ u, 48 ≤ x ∧ x ≤ 57 := by
  unfold parOK at h
  rw [Bool.and_eq_true, Option.isSome_iff_exists] at h
  obtain ⟨⟨m, hm⟩, _⟩ := h
  exact pv_digs hm
/-- A text cut at its first point or r. -/
def spl : List Nat → List Nat × Nat × List Nat
  | [] => ([], 0, [])
  | b :: u => if b = 46 ∨ b = 114 then ([], b, u) else (b :: (spl u).1, (spl u).2.1, (spl u).2.2)
theorem spl_big : ∀ {h u : List Nat}, (∀ x ∈ h, 128 ≤ x) → spl (h ++ u) = (h ++ (spl u).1, (spl u).2.1, (spl u).2.2)
  | [], u, _ => rfl
  | x :: h, u, hx => by
    have h1 := hx x (by simp)
    rw [List.cons_append, spl, if_neg (by omega), spl_big fun y hy => hx y (by simp [hy])]; rfl
theorem drop_one {s : ByteArray} {pos : Nat} (h : pos < s.size) : (byts s).drop pos = (byts s).getD pos 0 :: (byts s).drop (pos + 1) := by
  have hl := byts_length s
  rw [List.drop_eq_getElem_cons (by omega), List.getD_eq_getElem?_getD, List.getElem?_eq_getElem (by omega)]; rfl
theorem drop_big {s : ByteArray} {pos : Nat} (h : pos < s.size) (hb : 128 ≤ (byts s).getD pos 0) :
    ∃ g, g ≠ [] ∧ (∀ x ∈ g, 128 ≤ x) ∧ (byts s).drop pos = g ++ (byts s).drop (rnext s pos) := by
  obtain ⟨_, h2, _, h4, h5⟩ := dec_great h hb
  have hl := byts_length s
  refine ⟨((byts s).drop pos).take (rnext s pos - pos), ?_, ?_, ?_⟩
  · intro e
    have := congrArg List.length e
    rw [List.length_take, List.length_drop, List.length_nil] at this
    omega
  · intro x hx
    obtain ⟨i, hi⟩ := List.getElem?_of_mem hx
    rw [List.getElem?_take] at hi
    split at hi
    · rename_i hlt
      rw [List.getElem?_drop] at hi
      have := h5 (pos + i) (by omega) (by omega)
      rw [List.getD_eq_getElem?_getD, hi] at this
      exact this
    · cases hi
  · have := List.take_append_drop (rnext s pos - pos) ((byts s).drop pos)
    rw [List.drop_drop, show pos + (rnext s pos - pos) = rnext s pos by omega] at this
    exact this.symm
theorem sap_ok {a b : ByteArray} (h : (byts a).length + (byts b).length ≤ 100000) : sap? a b = some (a ++ b) := by
  rw [byts_length, byts_length] at h
  exact if_pos (Nat.le_trans h (by decide))
/-- Behind the cut. -/
theorem parts_two (s : ByteArray) : ∀ (n pos k : Nat) (s1 : Bool) (s2 : ByteArray) (s3 : Int) (s4 : ByteArray), s.size - pos ≤ n → n < k → s3 ≠ 0 → 0 < pos → (byts s4).length + 4 * n ≤ 50000 →
    ∃ s4' v, rat_parts_l0 s k s1 s2 s3 s4 pos = some (s1, s2, s3, s4') ∧ Enc ((byts s).drop pos) v ∧ byts s4' = byts s4 ++ v
  | 0, pos, k, s1, s2, s3, s4, h1, h2, h3, h4, h5 => by
    obtain ⟨k, rfl⟩ : ∃ m, k = m + 1 := ⟨k - 1, by omega⟩
    have hl := byts_length s
    rw [rat_parts_l0, if_neg (by omega), List.drop_eq_nil_of_le (by omega)]
    exact ⟨s4, [], rfl, .nil, (List.append_nil _).symm⟩
  | n + 1, pos, k, s1, s2, s3, s4, h1, h2, h3, h4, h5 => by
    obtain ⟨k, rfl⟩ : ∃ m, k = m + 1 := ⟨k - 1, by omega⟩
    have hl := byts_length s
    by_cases hp : pos < s.size
    · rw [rat_parts_l0, if_pos hp, if_neg (by simp; omega), if_neg (by simp [h3]), if_neg h3]
      by_cases hb : (byts s).getD pos 0 < 128
      · obtain ⟨d1, d2⟩ := dec_small hb
        have he := enc_small hb
        rw [d1, d2, sap_ok (by rw [he]; simp; omega), Option.bind_some]
        obtain ⟨s4', v, e1, e2, e3⟩ := parts_two s n (pos + 1) k s1 s2 s3 (s4 ++ Utf8.encode ((byts s).getD pos 0 : Nat)) (by omega) (by omega) h3 (by omega) (by rw [byts_app, he]; simp; omega)
        refine ⟨s4', _, e1, by rw [drop_one hp]; exact .one hb e2, ?_⟩
        rw [e3, byts_app, he]; simp
      · obtain ⟨g1, g2, g3, g4, _⟩ := dec_great hp (by omega)
        obtain ⟨g, k1, k2, k3⟩ := drop_big hp (by omega)
        obtain ⟨f1, f2, f3⟩ := enc_great g1
        rw [sap_ok (by omega), Option.bind_some]
        obtain ⟨s4', v, e1, e2, e3⟩ := parts_two s n (rnext s pos) k s1 s2 s3 (s4 ++ Utf8.encode (rune s pos)) (by omega) (by omega) h3 (by omega) (by rw [byts_app, List.length_append]; omega)
        refine ⟨s4', _, e1, by rw [k3]; exact .big k1 f1 k2 f3 f2 e2, ?_⟩
        rw [e3, byts_app, List.append_assoc]
    · rw [rat_parts_l0, if_neg hp, List.drop_eq_nil_of_le (by omega)]
      exact ⟨s4, [], rfl, .nil, (List.append_nil _).symm⟩
/-- Ahead of the cut. -/
theorem parts_one (s : ByteArray) : ∀ (n pos k : Nat) (s1 : Bool) (s2 : ByteArray), s.size - pos ≤ n → n < k → (pos = 0 → rune s 0 ≠ 175) → (byts s2).length + 4 * n ≤ 50000 →
    ∃ s2' s4' v w, rat_parts_l0 s k s1 s2 0 (⟨#[]⟩ : ByteArray) pos = some (s1, s2', (((spl ((byts s).drop pos)).2.1 : Nat) : Int), s4') ∧
      Enc (spl ((byts s).drop pos)).1 v ∧ byts s2' = byts s2 ++ v ∧ Enc (spl ((byts s).drop pos)).2.2 w ∧ byts s4' = w
  | 0, pos, k, s1, s2, h1, h2, h3, h5 => by
    obtain ⟨k, rfl⟩ : ∃ m, k = m + 1 := ⟨k - 1, by omega⟩
    have hl := byts_length s
    rw [rat_parts_l0, if_neg (by omega), List.drop_eq_nil_of_le (by omega)]
    exact ⟨s2, ⟨#[]⟩, [], [], rfl, .nil, (List.append_nil _).symm, .nil, rfl⟩
  | n + 1, pos, k, s1, s2, h1, h2, h3, h5 => by
    obtain ⟨k, rfl⟩ : ∃ m, k = m + 1 := ⟨k - 1, by omega⟩
    have hl := byts_length s
    by_cases hp : pos < s.size
    · rw [rat_parts_l0, if_pos hp, if_neg (by
        rw [Bool.and_eq_true, decide_eq_true_eq, decide_eq_true_eq]
        rintro ⟨e1, e2⟩
        have e3 : pos = 0 := by omega
        subst e3
        exact h3 rfl e2)]
      by_cases hb : (byts s).getD pos 0 < 128
      · obtain ⟨d1, d2⟩ := dec_small hb
        have he := enc_small hb
        rw [d1, d2, drop_one hp]
        by_cases hc : (byts s).getD pos 0 = 46 ∨ (byts s).getD pos 0 = 114
        · have hye : (decide ((0 : Int) = 0) && (decide ((((byts s).getD pos 0 : Nat) : Int) = 46) || decide ((((byts s).getD pos 0 : Nat) : Int) = 114))) = true := by
            rcases hc with h | h <;> rw [h] <;> rfl
          rw [if_pos hye, spl, if_pos hc]
          obtain ⟨s4', v, e1, e2, e3⟩ := parts_two s n (pos + 1) k s1 s2 ((byts s).getD pos 0 : Nat) ⟨#[]⟩ (by omega) (by omega) (by omega) (by omega) (by simp [byts]; omega)
          exact ⟨s2, s4', [], v, e1, .nil, (List.append_nil _).symm, e2, e3⟩
        · rw [if_neg (by simp only [Bool.and_eq_true, Bool.or_eq_true, decide_eq_true_eq]; omega), if_pos rfl, spl, if_neg hc, sap_ok (by rw [he]; simp; omega), Option.bind_some]
          obtain ⟨s2', s4', v, w, e1, e2, e3, e4, e5⟩ := parts_one s n (pos + 1) k s1 (s2 ++ Utf8.encode ((byts s).getD pos 0 : Nat)) (by omega) (by omega) (by omega) (by rw [byts_app, he]; simp; omega)
          refine ⟨s2', s4', _, w, e1, .one hb e2, ?_, e4, e5⟩
          rw [e3, byts_app, he]; simp
      · obtain ⟨g1, g2, g3, g4, _⟩ := dec_great hp (by omega)
        obtain ⟨g, k1, k2, k3⟩ := drop_big hp (by omega)
        obtain ⟨f1, f2, f3⟩ := enc_great g1
        have hne : ¬ ((decide ((0 : Int) = 0) && (decide (rune s pos = 46) || decide (rune s pos = 114))) = true) := by
          simp only [Bool.and_eq_true, Bool.or_eq_true, decide_eq_true_eq]; omega
        rw [if_neg hne, if_pos rfl, sap_ok (by omega), Option.bind_some, k3, spl_big k2]
        obtain ⟨s2', s4', v, w, e1, e2, e3, e4, e5⟩ := parts_one s n (rnext s pos) k s1 (s2 ++ Utf8.encode (rune s pos)) (by omega) (by omega) (by omega) (by rw [byts_app, List.length_append]; omega)
        refine ⟨s2', s4', _, w, e1, .big k1 f1 k2 f3 f2 e2, ?_, e4, e5⟩
        rw [e3, byts_app, List.append_assoc]
    · rw [rat_parts_l0, if_neg hp, List.drop_eq_nil_of_le (by omega)]
      exact ⟨s2, ⟨#[]⟩, [], [], rfl, .nil, (List.append_nil _).symm, .nil, rfl⟩
/-- What is left behind the sign. -/
def sgnB (u : List Nat) : Bool := decide (u.take 2 = [194, 175])
def behind (u : List Nat) : List Nat := if sgnB u = true then u.drop 2 else u
theorem sgn_rune {s : ByteArray} (h : 0 < s.size) : rune s 0 = 175 ↔ sgnB (byts s) = true := by
  have := dec_two (s := s) (pos := 0) h (c := 175) (by decide) (by decide)
  rw [show ((175 : Nat) : Int) = 175 from rfl] at this
  rw [this]
  unfold sgnB
  have hl := byts_length s
  rw [decide_eq_true_eq]
  match hb : byts s with
  | [] => rw [hb] at hl; simp at hl; omega
  | [a] =>
    rw [hb] at hl
    simp only [List.length_cons, List.length_nil] at hl
    constructor
    · rintro ⟨h, _⟩; omega
    · intro h; simp at h
  | a :: b :: r =>
    rw [hb] at hl
    simp only [List.length_cons] at hl
    simp [List.getD_eq_getElem?_getD]
    omega
theorem parts_eq {s : ByteArray} (h : s.size ≤ 5000) : ∃ s2 s4 v w, rat_parts s = some (sgnB (byts s), s2, (((spl (behind (byts s))).2.1 : Nat) : Int), s4) ∧ Enc (spl (behind (byts s))).1 v ∧ byts s2 = v ∧ Enc (spl (behind (byts s))).2.2 w ∧ byts s4 = w := by
  unfold rat_parts
  have hfu : (5001 : Nat) < FUEL := by unfold FUEL; omega
  have hl := byts_length s
  obtain ⟨k, hk⟩ : ∃ k, FUEL = k + 1 := ⟨FUEL - 1, by omega⟩
  by_cases h0 : 0 < s.size
  · by_cases hs : sgnB (byts s) = true
    · have hr := (sgn_rune h0).2 hs
      have ht := of_decide_eq_true hs
      have h2 : 2 ≤ s.size := by
        have := congrArg List.length ht
        rw [List.length_take] at this
        simp at this; omega
      have hn : rnext s 0 = 2 := by
        unfold rnext
        rw [dec_at]
        have b0 : (byts s).getD 0 0 = 194 := by
          have := congrArg (fun l => l.getD 0 0) ht
          rw [List.getD_eq_getElem?_getD] at this ⊢
          simpa [List.getElem?_take] using this
        have b1 : (byts s).getD (0 + 1) 0 = 175 := by
          have := congrArg (fun l => l.getD 1 0) ht
          rw [List.getD_eq_getElem?_getD] at this ⊢
          simpa [List.getElem?_take] using this
        rw [b0, b1]; unfold Lib.decodeN
        rw [if_neg (by decide), if_pos ⟨by decide, by omega, by decide⟩, if_pos (by decide)]
        rfl
      rw [hk, rat_parts_l0, if_pos h0, if_pos (by rw [hr]; rfl), hn, hs, behind, if_pos hs]
      obtain ⟨s2', s4', v, w, e1, e2, e3, e4, e5⟩ := parts_one s s.size 2 k true ⟨#[]⟩ (by omega) (by omega) (by omega) (by simp [byts]; omega)
      exact ⟨s2', s4', v, w, e1, e2, e3, e4, e5⟩
    · obtain ⟨s2', s4', v, w, e1, e2, e3, e4, e5⟩ := parts_one s s.size 0 FUEL false ⟨#[]⟩ (by omega) (by omega) (fun _ => fun e => hs ((sgn_rune h0).1 e)) (by simp [byts]; omega)
      rw [behind, if_neg hs]
      rw [List.drop_zero] at e1 e2 e4
      exact ⟨s2', s4', v, w, by rw [e1]; simp [hs], e2, e3, e4, e5⟩
  · have hb : byts s = [] := List.length_eq_zero_iff.1 (by omega)
    rw [hb, hk, rat_parts_l0, if_neg h0]
    exact ⟨⟨#[]⟩, ⟨#[]⟩, [], [], rfl, .nil, rfl, .nil, rfl⟩
end Go.FL
