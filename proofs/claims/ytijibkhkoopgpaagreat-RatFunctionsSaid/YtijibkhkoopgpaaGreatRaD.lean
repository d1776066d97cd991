/-
  Part 4 of the base of the proofs: a logic of our own over the calculus, the contracts of the functions
-/
import Derived.Test.YtijibkhkoopgpaaGreatRaC
set_option linter.unusedVariables false
/-
  nat.DivMod.
-/
namespace Go.FL
open Go Go.Proofs

theorem norm_ok {ys b : List Nat} {x n : Nat} (e : ys = b ++ [x]) (hb : Ok b) (hx : x ≠ 0) (hxl : x < 4294967296) (hn : n = 32 - bitsN x) : n < 32 ∧ val ys * 2 ^ n < 4294967296 ^ ys.length ∧ 4294967296 ^ b.length * 2147483648 ≤ val ys * 2 ^ n := by
  have hlx : bitsN x ≤ 32 := bitsN_iff.2 (by omega)
  obtain ⟨j, hj, hj1, hj2⟩ := bitsN_pos hx
  have hv : bitsN (val ys) = 32 * b.length + bitsN x := by rw [e]; exact bitsN_val hb hx
  have hlen : ys.length = b.length + 1 := by rw [e]; simp
  have hvp : val ys ≠ 0 := fun h0 => by rw [h0, show bitsN 0 = 0 from rfl] at hv; omega
  obtain ⟨m, hm, hm1, hm2⟩ := bitsN_pos hvp
  have hB : ∀ k, 4294967296 ^ k = 2 ^ (32 * k) := fun k => by rw [Nat.pow_mul]
  refine ⟨by omega, ?_, ?_⟩
  · rw [hB, hlen, show 32 * (b.length + 1) = (m + 1) + n by omega, Nat.pow_add]
    exact Nat.mul_lt_mul_of_pos_right hm2 (Nat.pow_pos (by decide))
  · rw [hB, show (2147483648 : Nat) = 2 ^ 31 by rfl, ← Nat.pow_add, show 32 * b.length + 31 = m + n by omega, Nat.pow_add]
    exact Nat.mul_le_mul_right _ hm1
theorem top_big {v : List Nat} {k : Nat} (hv : Ok v) (hk : v.length = k + 1) (h : 4294967296 ^ k * 2147483648 ≤ val v) : 2147483648 ≤ v.getD k 0 := by
  have h1 := take_lt (j := k) hv (by omega)
  have h2 := val_split v k (by omega)
  rw [drop_val, List.drop_eq_nil_of_le (by omega)] at h2
  simp only [val, Nat.mul_zero, Nat.add_zero] at h2
  apply Classical.byContradiction
  intro hc
  have h3 : 4294967296 ^ k * (v.getD k 0 + 1) ≤ 4294967296 ^ k * 2147483648 := Nat.mul_le_mul_left _ (by omega)
  rw [Nat.mul_add, Nat.mul_one] at h3
  omega
theorem div_end {R D E Q A : Nat} (hE : 0 < E) (h : R + D * E * Q = A * E) (hR : R < D * E) : A / D = Q ∧ R / E = A % D ∧ 0 < D := by
  have hD : 0 < D := by
    rcases Nat.eq_zero_or_pos D with h0 | h0
    · subst h0; simp at hR
    · exact h0
  have e1 : D * E * Q = (D * Q) * E := by grind
  rw [e1] at h
  have hle : D * Q ≤ A := by
    have : (D * Q) * E ≤ A * E := by omega
    exact Nat.le_of_mul_le_mul_right this hE
  obtain ⟨r, rfl⟩ := Nat.exists_eq_add_of_le hle
  rw [Nat.add_mul] at h
  have hr : R = r * E := by omega
  rw [hr] at hR
  have hrD : r < D := Nat.lt_of_mul_lt_mul_right hR
  refine ⟨?_, ?_, hD⟩
  · rw [Nat.mul_add_div hD, Nat.div_eq_of_lt hrD, Nat.add_zero]
  · rw [hr, Nat.mul_div_cancel _ hE, Nat.mul_add_mod, Nat.mod_eq_of_lt hrD]
theorem start_ok {xs : List Nat} {n m V k : Nat} (hx : Ok xs) (hn : n < 32) (hm : xs.length = m + k) (hV : 4294967296 ^ k * 2147483648 ≤ V) {u : List Nat} (hu : val u = val xs * 2 ^ n) (hl : m ≤ u.length) : val (u.drop m) < V := by
  rw [val_split u m hl] at hu
  have h1 := val_lt hx
  rw [hm, Nat.pow_add] at h1
  have h2 : (2 : Nat) ^ n ≤ 2147483648 := Nat.pow_le_pow_right (n := 2) (by decide) (show n ≤ 31 by omega)
  have h3 : val xs * 2 ^ n < 4294967296 ^ m * 4294967296 ^ k * 2 ^ n := Nat.mul_lt_mul_of_pos_right h1 (Nat.pow_pos (by decide))
  have h4 : 4294967296 ^ m * 4294967296 ^ k * 2 ^ n ≤ 4294967296 ^ m * (4294967296 ^ k * 2147483648) := by
    rw [Nat.mul_assoc]
    exact Nat.mul_le_mul_left _ (Nat.mul_le_mul_left _ h2)
  have h5 : 4294967296 ^ m * (4294967296 ^ k * 2147483648) ≤ 4294967296 ^ m * V := Nat.mul_le_mul_left _ hV
  have h6 : 4294967296 ^ m * val (u.drop m) < 4294967296 ^ m * V := by omega
  exact Nat.lt_of_mul_lt_mul_left h6
theorem total_step {lo P T V Q U Z W : Nat} (h : lo + P * T + V * Z = U) (hT : T = V * Q + W) {Z' : Nat} (hZ : Z' + 0 * P = Z + Q * P) : lo + P * W + V * Z' = U := by
  grind
theorem L_rep (n : Nat) : L (List.replicate n 0) = List.replicate n (U 0) := by simp [L]

theorem DivMod_fn {a b : List Nat} (ha : Ok a) (hb : Ok b) (hla : a.length ≤ 500000) (hlb : b.length ≤ 500000) : Fn Tryz.prog 53 [.sl (L a), .sl (L b)]
    (.tup [.d (.sl (L (digs (val a / val b)))), .d (.sl (L (digs (remN (val a) (val b))))), .d (.b (decide (val b ≠ 0)))]) := by
  have oa := digs_ok (val a)
  have ob := digs_ok (val b)
  have va := val_digs (val a)
  have vb := val_digs (val b)
  have la := Nat.le_trans (digs_len_le ha) hla
  have lb := Nat.le_trans (digs_len_le hb) hlb
  have hspl := @digs_split (val b)
  have hlt := @digs_lt (val a) (val b)
  have hnil := @digs_nil_iff (val b)
  refine Fn.of (rs := [.tmp 4, .tmp 5, .tmp 6]) (nt := 163) Tryz.func53 rfl rfl rfl (by simp) rfl ?_
  refine .seq ?_
  refine .region ?_
  refine asn ?_
  refine asn ?_
  refine asd ?_
  refine rn ?_
  refine .seq ?_
  refine .region ?_
  refine mvd ?_
  refine cl (xs := [.sl (L a)]) ?_ (cut_val ha (by omega)) Tryz.call82
  refine mvd ?_
  refine cl (xs := [.sl (L b)]) ?_ (cut_val hb (by omega)) Tryz.call82
  refine asd ?_
  refine asd ?_
  refine rn ?_
  generalize digs (val a) = xs at *
  generalize digs (val b) = ys at *
  refine .gh (Gh.keep [0, 1, 4, 5, 6] rfl) ?_
  refine .mid (fun e H' => H' = [] ∧ 2 ≤ ys.length ∧ ys.length ≤ xs.length ∧ e = [(0, .d (.sl (L xs))), (1, .d (.sl (L ys)))]) ?_ ?_
  · refine .block ?_
    refine .seq ?_
    refine .region ?_
    refine mvd ?_
    refine ln ?_ (L_sz _) l32
    refine bi ?_
    refine asd ?_
    refine rn ?_
    by_cases h0 : val b = 0
    · have hy := hnil.2 h0
      subst hy
      refine cndt ?_
      refine .seq ?_
      refine .region ?_
      refine asn ?_
      refine asn ?_
      refine asd ?_
      refine rn ?_
      refine .gh (Gh.nlD (t := 4) rfl) ?_
      refine .gh (Gh.nlD (t := 5) rfl) ?_
      refine .ret ?_
      refine ⟨by decide, ?_, rfl, rfl, rfl⟩
      rw [h0]
      simp [remN, digs_zero]; exact ⟨rfl, rfl, rfl⟩
    · obtain ⟨bb, x, hyx, hx0, hbb, hxl⟩ := hspl h0
      have hyl : ys.length = bb.length + 1 := by rw [hyx]; simp
      rw [decide_eq_false (show ¬ (((L ys).length : Nat) : Int) = 0 by rw [L_length]; omega)]
      refine cndf ?_
      refine .seq ?_
      refine .region ?_
      refine mvd ?_
      refine ln ?_ (L_sz _) l32
      refine bi ?_
      refine asd ?_
      refine rn ?_
      by_cases h1 : ys.length = 1
      · have hbb0 : bb = [] := List.length_eq_zero_iff.1 (by omega)
        rw [hbb0, List.nil_append] at hyx
        have hvx : val b = x := by rw [← vb, hyx]; simp [val]
        rw [decide_eq_true (show (((L ys).length : Nat) : Int) = 1 by rw [L_length]; omega)]
        have hy0 : ys[0]? = some (val b) := by rw [hyx, hvx]; rfl
        have fsm := small_fn (a := xs) (d := val b) oa (by omega) (by omega) (by omega)
        rw [va] at fsm
        refine cndt ?_
        refine .seq ?_
        refine .region ?_
        refine mvd ?_
        refine mvd ?_
        refine ix 0 ?_ rfl (L_at hy0) rfl s32
        refine ldp ?_ a32
        refine cl (xs := [.sl (L xs), U (val b)]) ?_ fsm Tryz.call88
        refine mvt ?_
        refine ex ?_
        refine ex ?_
        refine asd ?_
        refine asd ?_
        refine rn ?_
        refine .seq ?_
        refine .region ?_
        refine mvd ?_
        refine mvd ?_
        refine asd ?_
        refine asd ?_
        refine asd ?_
        refine rn ?_
        refine .ret ?_
        exact ⟨by decide, by rw [remN, if_neg h0, decide_eq_true h0]; rfl, rfl, rfl, rfl⟩
      · rw [decide_eq_false (show ¬ (((L ys).length : Nat) : Int) = 1 by rw [L_length]; omega)]
        refine cndf ?_
        refine .seq ?_
        refine .region ?_
        refine mvd ?_
        refine ln ?_ (L_sz _) l32
        refine mvd ?_
        refine ln ?_ (L_sz _) l32
        refine bi ?_
        refine asd ?_
        refine rn ?_
        by_cases h2 : xs.length < ys.length
        · have hab := hlt h2
          rw [decide_eq_true (show (((L xs).length : Nat) : Int) < ((L ys).length : Nat) by rw [L_length, L_length]; omega)]
          have ft := Trim_fn (a := xs) oa (by omega)
          rw [va] at ft
          refine cndt ?_
          refine .seq ?_
          refine .region ?_
          refine mvd ?_
          refine cl (xs := [.sl (L xs)]) ?_ ft Tryz.call83
          refine asn ?_
          refine aso ?_
          refine asd ?_
          refine rn ?_
          refine .gh (Gh.nlD (t := 4) rfl) ?_
          refine .gh (Gh.frz (p := .t 5) rfl (fun _ _ h => by cases h)) ?_
          refine .ret ?_
          refine ⟨by decide, ?_, rfl, rfl, rfl⟩
          rw [remN, if_neg h0, decide_eq_true h0, Nat.div_eq_of_lt hab, Nat.mod_eq_of_lt hab, digs_zero]; rfl
        · rw [decide_eq_false (show ¬ (((L xs).length : Nat) : Int) < ((L ys).length : Nat) by rw [L_length, L_length]; omega)]
          refine cndf ?_
          refine .gh (Gh.keep [0, 1] rfl) ?_
          refine .skip ?_
          exact ⟨rfl, by omega, by omega, rfl⟩
  rintro _ _ ⟨rfl, hy2, hyx, rfl⟩
  have h0 : val b ≠ 0 := fun h => by have := hnil.2 h; rw [this] at hy2; simp at hy2
  obtain ⟨bb, x, hys, hx0, hbb, hxl⟩ := hspl h0
  obtain ⟨k, hk⟩ : ∃ k, ys.length = k + 2 := ⟨ys.length - 2, by omega⟩
  have hyl : bb.length = k + 1 := by rw [hys] at hk; simp at hk; omega
  obtain ⟨m0, hm0⟩ : ∃ m0, xs.length = m0 + (k + 2) := ⟨xs.length - (k + 2), by omega⟩
  obtain ⟨n, hn⟩ : ∃ n, n = 32 - bitsN x := ⟨_, rfl⟩
  obtain ⟨hn32, hV1, hV2⟩ := norm_ok hys hbb hx0 hxl hn
  have hxat : ys[k + 1]? = some x := by rw [hys, ← hyl]; simp
  have flz := LeadingZeros32_fn hxl
  rw [← hn] at flz
  have fsx := shifted_fn (a := xs) (n := n) oa (by omega) hn32
  have fsy := shifted_fn (a := ys) (n := n) ob (by omega) hn32
  obtain ⟨ux1, ux2⟩ := shL_val hn32 xs 0 oa (Nat.pow_pos (by decide))
  obtain ⟨uy1, uy2⟩ := shL_val hn32 ys 0 ob (Nat.pow_pos (by decide))
  have ux3 := shL_length n xs 0
  have uy3 := shL_length n ys 0
  rw [Nat.zero_add] at ux1 uy1
  generalize shL n 0 xs = u0 at *
  generalize shL n 0 ys = w0 at *
  have hvz := val_zero_drop (u := w0) (k := ys.length) (by omega) (by rw [uy1]; exact hV1)
  have hvv : val (w0.take ys.length) = val b * 2 ^ n := by
    have := val_split w0 ys.length (by omega)
    rw [hvz, Nat.mul_zero, Nat.add_zero, uy1, vb] at this
    exact this.symm
  have ov := uy2.take ys.length
  have lv : (w0.take ys.length).length = k + 2 := by rw [List.length_take]; omega
  generalize hvdef : w0.take ys.length = v at *
  rw [vb, hyl] at hV2
  rw [vb, hk] at hV1
  rw [va] at ux1
  have htop := top_big ov (show v.length = (k + 1) + 1 by omega) (by rw [hvv]; exact hV2)
  have hst := start_ok (V := val v) (m := m0 + 1) (k := k + 1) oa hn32 (by omega) (by rw [hvv]; exact hV2) (by rw [ux1, va]) (u := u0) (by omega)
  have hVpos : 0 < val v := by rw [hvv]; exact Nat.mul_pos (by omega) (Nat.pow_pos (by decide))
  have e2n : 0 < 2 ^ n := Nat.pow_pos (by decide)
  have hvlen : val v < 4294967296 ^ (k + 2) := by rw [hvv]; exact hV1
  have hdend : ∀ R Q, R + val v * Q = val a * 2 ^ n → R < val v → val a / val b = Q ∧ R / 2 ^ n = val a % val b := fun R Q h1 h2 => by
    rw [hvv] at h1 h2
    obtain ⟨e1, e2, _⟩ := div_end e2n h1 h2
    exact ⟨e1, e2⟩
  clear hspl hlt hnil hV2 hvz hV1 hvv uy1 vb va
  refine .seq ?_
  refine .region ?_
  refine mvd ?_
  refine mvd ?_
  refine ln ?_ (L_sz _) l32
  refine su ((k + 1 : Nat) : Int) ?_ ?_
  · rw [L_length]; omega
  refine ix (k + 1) ?_ rfl (L_at hxat) rfl s32
  refine ldp ?_ a32
  refine cl (xs := [.i .u32 (x : Int)]) ?_ flz Tryz.call89
  refine asd ?_
  refine rn ?_
  refine .gh (Gh.keep [0, 1, 7] rfl) ?_
  refine .seq ?_
  refine .drawn 10 mixed (by kernel_rfl) ?_
  refine dv vmvd ?_
  refine dv vmvd ?_
  refine dv (v := .own 40 (L u0)) (vcl (xs := [.sl (L xs), .i .i64 (n : Int)]) (r := .own 40 (L u0)) fsx Tryz.call90) ?_
  refine dv vmvd ?_
  refine dv vmvd ?_
  refine dv (v := .d (.sl (L w0))) (vcl (xs := [.sl (L ys), .i .i64 (n : Int)]) (r := .own 40 (L w0)) fsy Tryz.call90).deep ?_
  refine dv vmvd ?_
  refine dv (vln (L_sz _) l32) ?_
  refine dv (vsl 0 ys.length ?_ (L_sz1 _) s32) ?_
  · rw [L_length, L_length]; omega
  refine dv vaso ?_
  refine dz ?_
  refine asd ?_
  refine RL.gh (Gh.swap (s := 55) (t := 8) rfl rfl rfl) ?_
  refine rn ?_
  rw [List.drop_zero, Nat.sub_zero, L_take, hvdef]
  refine .gh (Gh.keep [0, 7, 8, 9] rfl) ?_
  refine .seq ?_
  refine .region ?_
  refine mvd ?_
  refine ln ?_ (L_sz _) l32
  refine asd ?_
  refine rn ?_
  refine .seq ?_
  refine .region ?_
  refine mvd ?_
  refine ln ?_ (L_sz _) l32
  refine mvd ?_
  refine su (m0 : Int) ?_ ?_
  · rw [L_length, L_length]; omega
  refine ad ((m0 + 1 : Nat) : Int) ?_ ?_
  · omega
  refine mk (m0 + 1) ⟨rfl, rfl⟩ ?_ ?_ e32 rfl
  · omega
  refine aso ?_
  refine rn ?_
  refine .mid (fun e H' => ∃ u q, Ok u ∧ Ok q ∧ u.length = u0.length ∧ q.length = m0 + 1 ∧ val u + val v * val q = val a * 2 ^ n ∧ val u < val v ∧ e = [(4, .own 40 (L q)), (7, .d (.i .i64 (n : Int))), (8, .own 40 (L u)), (10, .d (.i .i64 ((L v).length : Nat)))]) ?_ ?_
  · refine .seq ?_
    refine .region ?_
    refine mvd ?_
    refine ln ?_ (L_sz _) l32
    refine mvd ?_
    refine su (m0 : Int) ?_ ?_
    · rw [L_length, L_length]; omega
    refine asd ?_
    refine rn ?_
    refine .block ?_
    refine .loop (.gh (Gh.keep [4, 7, 8, 9, 10, 11] rfl) ?_)
    refine AL.cast (env' := [(4, .own 40 (L (List.replicate (m0 + 1) 0))), (7, .d (.i .i64 (n : Int))), (8, .own 40 (L u0)), (9, .d (.sl (L v))), (10, .d (.i .i64 ((L v).length : Nat))), (11, .d (.i .i64 (((m0 + 1 : Nat) : Int) - 1)))]) (by rw [L_rep, show ((m0 + 1 : Nat) : Int) - 1 = (m0 : Int) by omega]; rfl) ?_
    refine AL.ind (σ := Nat × List Nat × List Nat × Heap) (m := fun s => s.1) (e := fun s => [(4, .own 40 (L s.2.2.1)), (7, .d (.i .i64 (n : Int))), (8, .own 40 (L s.2.1)), (9, .d (.sl (L v))), (10, .d (.i .i64 ((L v).length : Nat))), (11, .d (.i .i64 ((s.1 : Int) - 1)))]) (h := fun s => s.2.2.2)
      (I := fun s => s.1 ≤ m0 + 1 ∧ Ok s.2.1 ∧ Ok s.2.2.1 ∧ s.2.1.length = u0.length ∧ s.2.2.1.length = m0 + 1 ∧ val s.2.1 + val v * val s.2.2.1 = val a * 2 ^ n ∧ val (s.2.1.drop s.1) < val v ∧ ∀ j, j < s.1 → s.2.2.1[j]? = some 0) ?_ (m0 + 1, u0, List.replicate (m0 + 1) 0, []) ⟨Nat.le_refl _, ux2, rep_ok _, rfl, by simp, by simp [rep_val, ux1], hst, fun j hj => by
      dsimp only at hj ⊢
      rw [List.getElem?_replicate, if_pos hj]⟩
    rintro ⟨m, u, q, G⟩ ⟨h1, h2, h3, h4, h5, h6, h7, h8⟩ ih
    dsimp only at h1 h2 h3 h4 h5 h6 h7 h8 ih ⊢
    refine .seq ?_
    refine .seq ?_
    refine .region ?_
    refine mvd ?_
    refine bi ?_
    refine rn ?_
    cases m with
    | zero =>
      rw [decide_eq_false (show ¬ (0 : Int) ≤ ((0 : Nat) : Int) - 1 by omega)]
      refine cndf ?_
      refine .gh (Gh.keep [4, 7, 8, 10] rfl) ?_
      refine .exit ?_
      exact ⟨u, q, h2, h3, h4, h5, h6, by simpa using h7, rfl⟩
    | succ i =>
      rw [decide_eq_true (show (0 : Int) ≤ ((i + 1 : Nat) : Int) - 1 by omega)]
      obtain ⟨t1, t2, t3⟩ := knuth_round (u := u) (v := v) (i := i) (k := k) h2 ov lv (by omega) h7 htop
      obtain ⟨g1, g2, g3⟩ := t3 _ rfl
      have fg := guess_fn t1 (getD_lt h2 (i + k + 1)) (getD_lt h2 (i + k)) (getD_lt ov (k + 1)) (getD_lt ov k) (by omega)
      have hx2 := getD_some (u := u) (j := i + k + 2) (by omega)
      have hx1 := getD_some (u := u) (j := i + k + 1) (by omega)
      have hx0' := getD_some (u := u) (j := i + k) (by omega)
      have hy1 := getD_some (u := v) (j := k + 1) (by omega)
      have hy0 := getD_some (u := v) (j := k) (by omega)
      have hzd : val (u.drop (i + v.length + 1)) = 0 := by
        have h9 := val_zero_drop (u := u.drop (i + 1)) (k := k + 2) (by rw [List.length_drop]; omega) (by omega)
        rw [List.drop_drop] at h9
        rw [lv, show i + (k + 2) + 1 = i + 1 + (k + 2) by omega]; exact h9
      generalize guessQ (u.getD (i + k + 2) 0) (u.getD (i + k + 1) 0) (u.getD (i + k) 0) (v.getD (k + 1) 0) (v.getD k 0) = g at *
      have ftk := take_fn (H := G) (u0 := u) (v := v) (q := g) (at0 := i) h2 ov (by omega) (by omega) (by omega)
      obtain ⟨w1, w2, w3, w4, w5, w6, w7⟩ := take_window (u := u) (v := v) (i := i) (g := g) h2 ov (by omega) (by omega) hzd
      generalize hres : takeGo g v u 0 0 i = res at *
      obtain ⟨u1, bf⟩ := res
      dsimp only at w1 w2 w3 w4 w5 w6 w7 ftk
      generalize u.getD (i + k + 2) 0 = x2 at *
      generalize u.getD (i + k + 1) 0 = x1 at *
      generalize u.getD (i + k) 0 = x0 at *
      generalize v.getD (k + 1) 0 = y1 at *
      generalize v.getD k 0 = y0 at *
      clear t1 t2 t3 hres
      refine cndt ?_
      refine .skip ?_
      show AW _ _ _ _ _ _
      refine .gh (Gh.keep [4, 7, 8, 9, 10, 11] rfl) ?_
      refine .seq ?_
      refine .block ?_
      refine .seq ?_
      refine .drawn 31 mixed (by kernel_rfl) ?_
      refine dv vmvo ?_
      refine dv vmvd ?_
      refine dv vmvd ?_
      refine dv (vad ((i + k + 2 : Nat) : Int) ?_) ?_
      · rw [L_length]; omega
      refine dv (vixr (i + k + 2) ?_ ?_ s32 (by decide)) ?_
      · rfl
      · rw [L_length]; omega
      refine dv (vlde (U x2) ?_ a32) ?_
      · rw [Nat.zero_add]; exact L_at' hx2
      refine dv vmvo ?_
      refine dv vmvd ?_
      refine dv vmvd ?_
      refine dv (vad ((i + k + 2 : Nat) : Int) ?_) ?_
      · rw [L_length]; omega
      refine dv (vsu ((i + k + 1 : Nat) : Int) ?_) ?_
      · omega
      refine dv (vixr (i + k + 1) ?_ ?_ s32 (by decide)) ?_
      · rfl
      · rw [L_length]; omega
      refine dv (vlde (U x1) ?_ a32) ?_
      · rw [Nat.zero_add]; exact L_at' hx1
      refine dv vmvo ?_
      refine dv vmvd ?_
      refine dv vmvd ?_
      refine dv (vad ((i + k + 2 : Nat) : Int) ?_) ?_
      · rw [L_length]; omega
      refine dv (vsu ((i + k : Nat) : Int) ?_) ?_
      · omega
      refine dv (vixr (i + k) ?_ ?_ s32 (by decide)) ?_
      · rfl
      · rw [L_length]; omega
      refine dv (vlde (U x0) ?_ a32) ?_
      · rw [Nat.zero_add]; exact L_at' hx0'
      refine dv vmvd ?_
      refine dv vmvd ?_
      refine dv (vsu ((k + 1 : Nat) : Int) ?_) ?_
      · rw [L_length]; omega
      refine dv (vix (k + 1) rfl (L_at hy1) rfl s32) ?_
      refine dv (vldp a32) ?_
      refine dv vmvd ?_
      refine dv vmvd ?_
      refine dv (vsu ((k : Nat) : Int) ?_) ?_
      · rw [L_length]; omega
      refine dv (vix k rfl (L_at hy0) rfl s32) ?_
      refine dv (vldp a32) ?_
      refine dv (v := .d (.i .u64 (g : Int))) (vcl (xs := [U x2, U x1, U x0, U y1, U y0]) (r := .d (.i .u64 (g : Int))) fg Tryz.call91) ?_
      refine dz ?_
      refine asd ?_
      refine rn ?_
      refine .gh (Gh.keep [4, 7, 8, 9, 10, 11, 12] rfl) ?_
      rw [show ((i + 1 : Nat) : Int) - 1 = (i : Int) by omega]
      refine .mid (fun e H' => ∃ u', Ok u' ∧ u'.length = u.length ∧ u'.take i = u.take i ∧ val (u'.drop i) = val (u.drop i) % val v ∧ e = [(4, .own 40 (L q)), (7, .d (.i .i64 (n : Int))), (8, .own 40 (L u')), (9, .d (.sl (L v))), (10, .d (.i .i64 ((L v).length : Nat))), (11, .d (.i .i64 (i : Int))), (12, .d (.i .u64 ((val (u.drop i) / val v : Nat) : Int)))]) ?_ ?_
      · refine .seq ?_
        refine .region ?_
        refine mvo ?_
        refine mvd ?_
        refine mvd ?_
        refine mvd ?_
        refine clg1 (L u1) (fun G2 => ?_) ftk Tryz.call92
        refine bi ?_
        refine rn ?_
        by_cases hbf : bf = 0
        · subst hbf
          obtain ⟨r1, r2⟩ := round0 (g := g) (W := val (u1.drop i)) hVpos (by simpa using w6) g1
          rw [decide_eq_false (show ¬ (0 : Int) < ((0 : Nat) : Int) by omega)]
          refine cndf ?_
          refine .gh (Gh.keep [4, 7, 8, 9, 10, 11, 12] rfl) ?_
          refine .skip ?_
          exact ⟨u1, w1, w2, w3, r2, by rw [← r1]; rfl⟩
        · have hbf1 : bf = 1 := by omega
          subst hbf1
          rw [decide_eq_true (show (0 : Int) < ((1 : Nat) : Int) by omega)]
          obtain ⟨ag, hag⟩ : ∃ ag, addGo v u1 0 i = ag := ⟨_, rfl⟩
          obtain ⟨wl, c⟩ := ag
          obtain ⟨z1, z2, z3, z4, ⟨ec, z5⟩, z6⟩ := add_window (u := u1) (v := v) (i := i) w1 ov (by omega) w5 hag rfl
          rw [Nat.one_mul] at w6
          obtain ⟨r1, r2, r3⟩ := round1 (T := val (u.drop i)) hVpos w6 w7 g2 z5 z6 (by rw [lv, Nat.pow_succ]; omega)
          have hwl := addGo_val v u1 0 i ov w1 (by decide) (by omega)
          rw [hag] at hwl
          obtain ⟨y1', y2', y3', y4', _, _⟩ := hwl
          dsimp only at y1' y2' y3' y4'
          have hxw := getD_some (u := wl) (j := i + v.length) (by omega)
          generalize wl.getD (i + v.length) 0 = xw at *
          refine cndt ?_
          refine .gh (Gh.keep [4, 7, 8, 9, 10, 11, 12] rfl) ?_
          refine .seq ?_
          refine .region ?_
          refine mvd ?_
          refine bie (.i .u64 ((g - 1 : Nat) : Int)) ?_ ?_
          · refine ⟨trivial, ?_⟩
            rw [show (g : Int) - 1 = ((g - 1 : Nat) : Int) by omega, toU64 (by omega)]
          refine asd ?_
          refine rn ?_
          rw [r1]
          refine .seq ?_
          refine .region ?_
          refine asd ?_
          refine rn ?_
          refine .mid (fun e H' => e = [(4, .own 40 (L q)), (7, .d (.i .i64 (n : Int))), (8, .own 40 (L wl)), (9, .d (.sl (L v))), (10, .d (.i .i64 ((L v).length : Nat))), (11, .d (.i .i64 (i : Int))), (12, .d (.i .u64 ((val (u.drop i) / val v : Nat) : Int))), (13, .d (.i .u32 (c : Int)))]) ?_ ?_
          · refine .seq ?_
            refine .region ?_
            refine mvd ?_
            refine ln ?_ (L_sz _) l32
            refine mvd ?_
            refine rn ?_
            refine .block ?_
            refine .loop (.gh (Gh.keep [4, 7, 8, 9, 10, 11, 12, 13, 117, 118, 119] rfl) ?_)
            refine AL.ind (σ := Nat × List Nat × Nat) (m := fun s => v.length - s.1) (e := fun s => [(4, .own 40 (L q)), (7, .d (.i .i64 (n : Int))), (8, .own 40 (L s.2.1)), (9, .d (.sl (L v))), (10, .d (.i .i64 ((L v).length : Nat))), (11, .d (.i .i64 (i : Int))), (12, .d (.i .u64 ((val (u.drop i) / val v : Nat) : Int))), (13, .d (.i .u32 (s.2.2 : Int))), (117, .d (.sl (L v))), (118, .d (.i .i64 ((L v).length : Nat))), (119, .d (.i .i64 (s.1 : Int)))]) (h := fun _ => G ++ G2)
              (I := fun s => s.1 ≤ v.length ∧ Ok s.2.1 ∧ s.2.1.length = u.length ∧ s.2.2 ≤ 1 ∧ addGo (v.drop s.1) s.2.1 s.2.2 (i + s.1) = (wl, c)) ?_ (0, u1, 0) ⟨Nat.zero_le _, w1, w2, by simp, hag⟩
            rintro ⟨j, uu, cc⟩ ⟨a1, a2', a3, a4, a5⟩ ih2
            dsimp only at a1 a2' a3 a4 a5 ih2 ⊢
            refine .seq ?_
            refine .region ?_
            refine bi ?_
            refine rn ?_
            refine .seq ?_
            by_cases hj : j < v.length
            · rw [decide_eq_true (show (j : Int) < ((L v).length : Nat) by rw [L_length]; omega)]
              have hyv : v[j]? = some v[j] := List.getElem?_eq_getElem hj
              have hdr : v.drop j = v[j] :: v.drop (j + 1) := List.drop_eq_getElem_cons hj
              generalize v[j] = yv at hyv hdr
              rw [hdr, addGo_cons] at a5
              have hyvl := ov.at hyv
              have hxv := getD_some (u := uu) (j := i + j) (by omega)
              have hxvl := getD_lt a2' (i + j)
              have fadd := Add32_fn hxvl hyvl (show cc < 4294967296 by omega)
              have hrr : (uu.getD (i + j) 0 + yv + cc) % 4294967296 < 4294967296 := Nat.mod_lt _ (by decide)
              have hc1 : (uu.getD (i + j) 0 + yv + cc) / 4294967296 ≤ 1 := by omega
              generalize (uu.getD (i + j) 0 + yv + cc) % 4294967296 = rr at *
              generalize (uu.getD (i + j) 0 + yv + cc) / 4294967296 = c' at *
              generalize uu.getD (i + j) 0 = xv at *
              refine cndt ?_
              refine .skip ?_
              show AW _ _ _ _ _ _
              refine .seq ?_
              refine .block ?_
              refine .seq ?_
              refine .region ?_
              refine mvd ?_
              refine ix j ?_ rfl (L_at hyv) rfl s32
              refine ldp ?_ a32
              refine asd ?_
              refine asd ?_
              refine rn ?_
              refine .region ?_
              refine mvo ?_
              refine mvd ?_
              refine mvd ?_
              refine ad ((i + j : Nat) : Int) ?_ ?_
              · omega
              refine mvo ?_
              refine mvd ?_
              refine mvd ?_
              refine ad ((i + j : Nat) : Int) ?_ ?_
              · omega
              refine ixr (i + j) ?_ ?_ ?_ s32 (by decide)
              · rfl
              · rw [L_length]; omega
              refine lde (U xv) ?_ ?_ a32
              · rw [Nat.zero_add]; exact L_at' hxv
              refine mvd ?_
              refine mvd ?_
              refine cl (xs := [U xv, U yv, U cc]) ?_ fadd Tryz.call93
              refine mvt ?_
              refine ex ?_
              refine ex ?_
              refine ixr (i + j) ?_ ?_ ?_ s32 (by decide)
              · rfl
              · rw [L_length]; omega
              refine ste ?_ ?_ z32
              · rw [Nat.zero_add]; exact L_leaf hxv
              refine asd ?_
              refine .nil ?_
              show AW _ _ _ _ _ _
              refine .region ?_
              refine ad ((j + 1 : Nat) : Int) ?_ ?_
              · omega
              refine mvd ?_
              refine rn ?_
              refine .gh (Gh.keep [4, 7, 8, 9, 10, 11, 12, 13, 117, 118, 119] rfl) ?_
              have := ih2 (j + 1, uu.set (i + j) rr, c') ⟨by dsimp only; omega, a2'.set _ hrr, by dsimp only; rw [List.length_set]; exact a3, hc1, a5⟩ (by dsimp only; omega)
              dsimp only at this
              rw [← L_set0] at this
              exact this
            · rw [decide_eq_false (show ¬ (j : Int) < ((L v).length : Nat) by rw [L_length]; omega)]
              refine cndf ?_
              refine .gh (Gh.keep [4, 7, 8, 9, 10, 11, 12, 13] rfl) ?_
              refine .exit ?_
              have hje : j = v.length := by omega
              subst hje
              rw [List.drop_eq_nil_of_le (Nat.le_refl _)] at a5
              have e1 : uu = wl ∧ cc = c := by simpa [addGo] using a5
              show _ = _
              rw [← e1.1, ← e1.2]; rfl
          rintro _ H3 rfl
          refine .region ?_
          refine mvo ?_
          refine mvd ?_
          refine mvd ?_
          refine ad ((i + v.length : Nat) : Int) ?_ ?_
          · rw [L_length]; omega
          refine ixr (i + v.length) ?_ ?_ ?_ s32 (by decide)
          · rfl
          · rw [L_length]; omega
          refine lde (U xw) ?_ ?_ a32
          · rw [Nat.zero_add]; exact L_at' hxw
          refine mvd ?_
          refine bie (.i .u32 (((xw + c) % 4294967296 : Nat) : Int)) ?_ ?_
          · exact ⟨trivial, by rw [← Int.natCast_add, wrapU32]⟩
          refine ixr (i + v.length) ?_ ?_ ?_ s32 (by decide)
          · rfl
          · rw [L_length]; omega
          refine ste ?_ ?_ z32
          · rw [Nat.zero_add]; exact L_leaf hxw
          refine RL.gh (Gh.keep [4, 7, 8, 9, 10, 11, 12] rfl) ?_
          refine .nil ?_
          exact ⟨_, z1, by rw [z2]; exact w2, by rw [z3]; exact w3, r2, by rw [← L_set0]; rfl⟩
      rintro _ G3 ⟨u', p1, p2, p3, p4, rfl⟩
      have hq0 := h8 i (by omega)
      have hQlt : val (u.drop i) / val v < 4294967296 := by omega
      have hdm := Nat.div_add_mod (val (u.drop i)) (val v)
      have hml := Nat.mod_lt (val (u.drop i)) hVpos
      have hqs := set_val hq0 (y := val (u.drop i) / val v)
      have hnew : val u' + val v * val (q.set i (val (u.drop i) / val v)) = val a * 2 ^ n := by
        have e1 := val_split u i (by omega)
        have e2 := val_split u' i (by omega)
        rw [p3, p4] at e2
        rw [e1] at h6
        rw [e2]
        exact total_step h6 hdm.symm hqs
      generalize val (u.drop i) / val v = Q at *
      refine .region ?_
      refine mvo ?_
      refine mvd ?_
      refine mvd ?_
      refine cve (Q : Int) (toU32 hQlt) ?_ u64 u32
      refine ixr i ?_ ?_ ?_ s32 (by decide)
      · rfl
      · rw [L_length]; omega
      refine ste ?_ ?_ z32
      · rw [Nat.zero_add]; exact L_leaf hq0
      refine .nil ?_
      show AW _ _ _ _ _ _
      refine .region ?_
      refine mvd ?_
      refine su ((i : Int) - 1) ?_ ?_
      · omega
      refine asd ?_
      refine rn ?_
      refine .gh (Gh.keep [4, 7, 8, 9, 10, 11] rfl) ?_
      have := ih (i, u', q.set i Q, G3) ⟨by dsimp only; omega, p1, h3.set _ hQlt, by dsimp only; rw [p2]; exact h4, by dsimp only; rw [List.length_set]; exact h5, hnew, by dsimp only; rw [p4]; exact hml, fun j hj => by
        dsimp only at hj ⊢
        rw [List.getElem?_set_ne (by omega)]
        exact h8 j (by omega)⟩ (by dsimp only; omega)
      dsimp only at this
      rw [← L_set0] at this
      exact this
  rintro _ H4 ⟨u, q, h2, h3, h4, h5, h6, h7, rfl⟩
  obtain ⟨d1, d2⟩ := hdend _ _ h6 h7
  have htk : val (u.take v.length) = val u := by
    have e1 := val_split u v.length (by omega)
    have e2 := val_zero_drop (u := u) (k := v.length) (by omega) (by rw [lv]; omega)
    rw [e2, Nat.mul_zero, Nat.add_zero] at e1
    exact e1.symm
  have fbk := back_fn (a := u.take v.length) (n := n) (h2.take _) (by rw [List.length_take]; omega) hn32
  rw [htk, d2] at fbk
  have e9 : ((L u).drop 0).take (v.length - 0) = L (u.take v.length) := by rw [List.drop_zero, Nat.sub_zero, L_take]
  rw [← e9] at fbk
  have fct := cut_val (a := q) h3 (by omega)
  rw [← d1] at fct
  refine .gh (Gh.frz (p := .t 4) rfl (fun _ _ h => by cases h)) ?_
  refine .gh (Gh.frz (p := .t 8) rfl (fun _ _ h => by cases h)) ?_
  refine .gh (Gh.keep [4, 7, 8, 10] rfl) ?_
  refine .seq ?_
  refine .drawn 7 mixed (by kernel_rfl) ?_
  refine dv vmvd ?_
  refine dv (v := .d (.sl (L (digs (val a / val b))))) (vcl (xs := [.sl (L q)]) (r := .d (.sl (L (digs (val a / val b))))) fct Tryz.call82) ?_
  refine dv vmvd ?_
  refine dv vmvd ?_
  refine dv (vsl 0 v.length ?_ (L_sz1 _) s32) ?_
  · rw [L_length, L_length]; omega
  refine dv vmvd ?_
  refine dv (v := .d (.sl (L (digs (val a % val b))))) (vcl (xs := [.sl (((L u).drop 0).take (v.length - 0)), .i .i64 (n : Int)]) (r := .d (.sl (L (digs (val a % val b))))) fbk Tryz.call94) ?_
  refine dz ?_
  refine asd ?_
  refine asd ?_
  refine asd ?_
  refine rn ?_
  refine .ret ?_
  exact ⟨by decide, by rw [remN, if_neg h0, decide_eq_true h0]; rfl, rfl, rfl, rfl⟩
end Go.FL
/-
  nat.Gcd: Euclid's way, number after number.
-/
namespace Go.FL
open Go Go.Proofs

/-- The greatest divisor of a list's numbers. -/
def gcdF (ls : List (List Nat)) : Nat := ls.foldl (fun g a => Nat.gcd g (val a)) 0
theorem gcdF_snoc (ls : List (List Nat)) (y : List Nat) : gcdF (ls ++ [y]) = Nat.gcd (gcdF ls) (val y) := by
  rw [gcdF, gcdF, List.foldl_append]; rfl
theorem gcd_lt {g x P : Nat} (hg : g < P) (hx : x < P) : Nat.gcd g x < P := by
  by_cases h : x = 0
  · subst h; rwa [Nat.gcd_zero_right]
  · exact Nat.lt_of_le_of_lt (Nat.gcd_le_right g (Nat.pos_of_ne_zero h)) hx
theorem gcd_step {g x : Nat} : Nat.gcd x (g % x) = Nat.gcd g x := by
  rw [Nat.gcd_comm g x, Nat.gcd_rec x g, Nat.gcd_comm]
theorem Gcd_fn {M : Nat} {ls : List (List Nat)} (h : ∀ a ∈ ls, Ok a) (hM : ∀ a ∈ ls, a.length ≤ M) (hl : ls.length ≤ 1000) (hM2 : M ≤ 500000) : Fn Tryz.prog 78 [.sl (LL ls)] (.d (.sl (L (digs (gcdF ls))))) := by
  have hv : ∀ a ∈ ls, val a < 4294967296 ^ M := fun a ha => Nat.lt_of_lt_of_le (val_lt (h a ha)) (Nat.pow_le_pow_right (by decide) (hM a ha))
  have hP : 0 < 4294967296 ^ M := Nat.pow_pos (by decide)
  refine Fn.of (rs := [.tmp 2]) (nt := 31) Tryz.func78 rfl rfl rfl (by simp) rfl ?_
  refine .seq ?_
  refine .region ?_
  refine asn ?_
  refine rn ?_
  refine .seq ?_
  refine .region ?_
  refine asn ?_
  refine rn ?_
  refine .mid (fun e H' => e = [(3, .d (.sl (L (digs (gcdF ls)))))]) ?_ ?_
  · refine .seq ?_
    refine .region ?_
    refine mvd ?_
    refine ln ?_ (LL_sz _) l2
    refine mvd ?_
    refine rn ?_
    refine .block ?_
    refine .gh (Gh.nlD (t := 3) rfl) ?_
    refine .loop (.gh (Gh.keep [3, 9, 10, 11] rfl) ?_)
    refine AL.cast (env' := [(3, .d (.sl (L (digs (gcdF (ls.take 0)))))), (9, .d (.sl (LL ls))), (10, .d (.i .i64 ((LL ls).length : Nat))), (11, .d (.i .i64 ((0 : Nat) : Int)))]) (by rw [List.take_zero]; show _ = [(3, AV.d (.sl (L (digs 0)))), (9, AV.d (.sl (LL ls))), _, _]; rw [digs_zero]; rfl) ?_
    refine AL.ind (σ := Nat) (m := fun i => ls.length - i) (e := fun i => [(3, .d (.sl (L (digs (gcdF (ls.take i)))))), (9, .d (.sl (LL ls))), (10, .d (.i .i64 ((LL ls).length : Nat))), (11, .d (.i .i64 (i : Int)))]) (h := fun _ => [])
      (I := fun i => i ≤ ls.length ∧ gcdF (ls.take i) < 4294967296 ^ M) ?_ 0 ⟨Nat.zero_le _, by rw [List.take_zero]; exact hP⟩
    rintro i ⟨h1, h2⟩ ih
    refine .seq ?_
    refine .region ?_
    refine bi ?_
    refine rn ?_
    refine .seq ?_
    by_cases hi : i < ls.length
    · rw [decide_eq_true (show (i:Int) < ((LL ls).length : Nat) by rw [LL_length]; omega)]
      have hy : ls[i]? = some ls[i] := List.getElem?_eq_getElem hi
      have htk : ls.take (i + 1) = ls.take i ++ [ls[i]] := List.take_succ_eq_append_getElem hi
      generalize ls[i] = y at hy htk
      have hyo := h y (List.mem_of_getElem? hy)
      have hyl := hM y (List.mem_of_getElem? hy)
      have hyv := hv y (List.mem_of_getElem? hy)
      have hst : gcdF (ls.take (i + 1)) = Nat.gcd (gcdF (ls.take i)) (val y) := by rw [htk, gcdF_snoc]
      generalize gcdF (ls.take i) = g at *
      refine cndt ?_
      refine .skip ?_
      show AW _ _ _ _ _ _
      refine .seq ?_
      refine .block ?_
      refine .seq ?_
      refine .region ?_
      refine ix i ?_ rfl (LL_at hy) rfl s2
      refine ldp ?_ a2
      refine asd ?_
      refine rn ?_
      refine .seq ?_
      refine .region ?_
      refine mvd ?_
      refine cl (xs := [.sl (L y)]) ?_ (Trim_fn hyo (by omega)) Tryz.call83
      refine aso ?_
      refine RL.gh (Gh.frz (p := .t 5) rfl (fun _ _ h => by cases h)) ?_
      refine rn ?_
      refine .block ?_
      refine .loop (.gh (Gh.keep [3, 5, 9, 10, 11] rfl) ?_)
      refine AL.ind (σ := Nat × Nat) (m := fun s => s.2) (e := fun s => [(3, .d (.sl (L (digs s.1)))), (5, .d (.sl (L (digs s.2)))), (9, .d (.sl (LL ls))), (10, .d (.i .i64 ((LL ls).length : Nat))), (11, .d (.i .i64 (i : Int)))]) (h := fun _ => [])
        (I := fun s => s.1 < 4294967296 ^ M ∧ s.2 < 4294967296 ^ M ∧ Nat.gcd s.1 s.2 = Nat.gcd g (val y)) ?_ (g, val y) ⟨h2, hyv, rfl⟩
      rintro ⟨p, x⟩ ⟨g1, g2, g3⟩ ih2
      dsimp only at g1 g2 g3 ih2 ⊢
      refine .seq ?_
      refine .seq ?_
      refine .region ?_
      refine mvd ?_
      refine ln ?_ (L_sz _) l32
      refine bi ?_
      refine rn ?_
      by_cases hx : x = 0
      · subst hx
        rw [decide_eq_false (show ¬ (0 : Int) < ((L (digs 0)).length : Nat) by rw [digs_zero]; decide)]
        rw [Nat.gcd_zero_right, ← hst] at g3
        refine cndf ?_
        refine .exit ?_
        show AW _ _ _ _ _ _
        refine .region ?_
        refine ad ((i + 1 : Nat) : Int) ?_ ?_
        · omega
        refine mvd ?_
        refine rn ?_
        refine .gh (Gh.keep [3, 9, 10, 11] rfl) ?_
        rw [g3]
        exact ih (i + 1) ⟨by omega, by rw [← g3]; exact g1⟩ (by omega)
      · have hd := digs_ne (m := x) (by omega)
        rw [decide_eq_true (show (0 : Int) < ((L (digs x)).length : Nat) by rw [L_length]; omega)]
        have fd := DivMod_fn (a := digs p) (b := digs x) (digs_ok _) (digs_ok _) (Nat.le_trans (digs_len g1) hM2) (Nat.le_trans (digs_len g2) hM2)
        rw [val_digs, val_digs, remN, if_neg hx] at fd
        refine cndt ?_
        refine .skip ?_
        show AW _ _ _ _ _ _
        refine .block ?_
        refine .seq ?_
        refine .region ?_
        refine mvd ?_
        refine mvd ?_
        refine cl (xs := [.sl (L (digs p)), .sl (L (digs x))]) ?_ fd Tryz.call53
        refine mvt ?_
        refine ex ?_
        refine ex ?_
        refine ex ?_
        refine asd ?_
        refine asd ?_
        refine asd ?_
        refine rn ?_
        refine .region ?_
        refine mvd ?_
        refine mvd ?_
        refine asd ?_
        refine asd ?_
        refine .nil ?_
        refine AL.gh (Gh.keep [3, 5, 9, 10, 11] rfl) ?_
        have hlt := Nat.mod_lt p (Nat.pos_of_ne_zero hx)
        exact ih2 (x, p % x) ⟨g2, by show p % x < _; omega, by show Nat.gcd x (p % x) = _; rw [gcd_step, g3]⟩ hlt
    · rw [decide_eq_false (show ¬ (i:Int) < ((LL ls).length : Nat) by rw [LL_length]; omega)]
      refine cndf ?_
      refine .gh (Gh.keep [3] rfl) ?_
      refine .exit ?_
      have e1 : ls.take i = ls := List.take_of_length_le (by omega)
      show _ = _
      rw [e1]; rfl
  rintro _ _ rfl
  refine .seq ?_
  refine .region ?_
  refine mvd ?_
  refine asd ?_
  refine rn ?_
  refine .ret ?_
  exact ⟨rfl, rfl⟩
end Go.FL
/-
  glyphref01: half, gcd (by halves and differences), Gcd.
-/
namespace Go.FL
open Go Go.Proofs

theorem u64_and1 (m : Nat) (h : m < 18446744073709551616) : bits .and .u64 (m : Int) 1 = ((m % 2 : Nat) : Int) := by
  have := bits_mask .u64 64 (by decide) wraps_u64 1 (by decide) (m : Int) (by omega) (by omega)
  rw [show (2 : Int) ^ 1 - 1 = 1 by decide] at this
  rw [this]; simp
theorem half_join {x y : Nat} (hx : x < 4294967296) : bits .or .u32 ((x / 2 : Nat) : Int) ((y % 2 * 2147483648 : Nat) : Int) = (((x + y * 4294967296) / 2 ^ 1 % 4294967296 : Nat) : Int) := by
  rw [bits_join_low .u32 32 (by decide) wraps_u32 31 _ _ (by omega) (by omega) (by omega) (by omega) (by omega) (by omega)]
  omega
theorem headD_drop (a : List Nat) (i : Nat) : (a.drop i).headD 0 = a.getD i 0 := by
  rw [List.headD_eq_head?_getD, List.head?_drop, List.getD_eq_getElem?_getD]
theorem half_fn {a : List Nat} (ha : Ok a) (hl : a.length ≤ 1000000) : Fn Tryz.prog 106 [.sl (L a)] (.own 40 (L (digs (val a / 2)))) := by
  obtain ⟨s1, s2⟩ := shR_val (n := 1) (by decide) a ha
  have s3 := shR_length 1 a
  refine Fn.of (rs := [.tmp 2]) (nt := 29) Tryz.func106 rfl rfl rfl (by simp) rfl ?_
  refine .seq ?_
  refine .region ?_
  refine asn ?_
  refine rn ?_
  refine .seq ?_
  refine .region ?_
  refine asn ?_
  refine rn ?_
  refine .mid (fun e H' => e = [(3, .own 40 (L (shR 1 a)))] ∧ H' = []) ?_ ?_
  · refine .seq ?_
    refine .region ?_
    refine asd ?_
    refine rn ?_
    refine .block ?_
    refine .gh (Gh.nlOwn (t := 3) 40 z32p rfl) ?_
    refine .loop (.gh (Gh.keep [0, 3, 4] rfl) ?_)
    refine AL.ind (σ := Nat) (m := fun i => a.length - i) (e := fun i => [(0, .d (.sl (L a))), (3, .own 40 (L ((shR 1 a).take i))), (4, .d (.i .i64 (i : Int)))]) (h := fun _ => [])
      (I := fun i => i ≤ a.length) ?_ 0 (Nat.zero_le _)
    intro i h1 ih
    refine .seq ?_
    refine .seq ?_
    refine .region ?_
    refine mvd ?_
    refine mvd ?_
    refine ln ?_ (L_sz _) l32
    refine bi ?_
    refine rn ?_
    by_cases hi : i < a.length
    · rw [decide_eq_true (show (i : Int) < ((L a).length : Nat) by rw [L_length]; omega)]
      have hx : a[i]? = some a[i] := List.getElem?_eq_getElem hi
      generalize a[i] = x at hx
      have hxl := ha.at hx
      have hyl := getD_lt ha (i + 1)
      have hsh := shR_at 1 a i x hx
      rw [headD_drop] at hsh
      have flm := limb_fn (a := a) ha (i := i + 1) (by omega)
      have htk : (shR 1 a).take (i + 1) = (shR 1 a).take i ++ [(x + a.getD (i + 1) 0 * 4294967296) / 2 ^ 1 % 4294967296] := by
        rw [List.take_add_one, hsh]; rfl
      generalize a.getD (i + 1) 0 = y at *
      have hout : ((shR 1 a).take i).length = i := by rw [List.length_take]; omega
      generalize (shR 1 a).take i = out at *
      have hj := half_join (x := x) (y := y) hxl
      generalize (x + y * 4294967296) / 2 ^ 1 % 4294967296 = z at *
      have hsz : ∀ d ∈ L [z], d.flat = true ∧ d.cells.length = 1 := by
        intro d hd
        simp only [L, List.map_cons, List.map_nil, List.mem_cons, List.not_mem_nil, or_false] at hd
        subst hd; exact ⟨rfl, rfl⟩
      refine cndt ?_
      refine .skip ?_
      show AW _ _ _ _ _ _
      refine .seq ?_
      refine .block ?_
      refine .drawn 15 mixed (by kernel_rfl) ?_
      refine dv vmvo ?_
      refine dv vmvd ?_
      refine dv vmvd ?_
      refine dv (vix i rfl (L_at hx) rfl s32) ?_
      refine dv (vldp a32) ?_
      refine dv (vbie (.i .u32 ((x / 2 : Nat) : Int)) ?_) ?_
      · simp [IntKind.bits]
      refine dv vmvd ?_
      refine dv vmvd ?_
      refine dv (vad ((i + 1 : Nat) : Int) ?_) ?_
      · omega
      refine dv (v := .d (.i .u64 (y : Int))) (vcl (xs := [.sl (L a), .i .i64 ((i + 1 : Nat) : Int)]) flm Tryz.call86) ?_
      refine dv (vbie (.i .u64 ((y % 2 : Nat) : Int)) ?_) ?_
      · exact ⟨trivial, by rw [u64_and1 y (by omega)]⟩
      refine dv (vcve ((y % 2 : Nat) : Int) (toU32 (by omega)) u64 u32) ?_
      refine dv (vbie (.i .u32 ((y % 2 * 2147483648 : Nat) : Int)) ?_) ?_
      · refine ⟨by decide, ?_⟩
        have : IntKind.u32.wrap ((y % 2 * 2147483648 : Nat) : Int) = ((y % 2 * 2147483648 : Nat) : Int) := toU32 (by omega)
        rw [← this]; simp [IntKind.bits]
      refine dv (vbie (.i .u32 (z : Int)) ?_) ?_
      · exact ⟨trivial, by rw [hj]⟩
      refine dv (v := .d (.sl (L [z]))) (vbsl hsz e32).deep ?_
      refine dz ?_
      refine apr ?_ ?_ (L_sz1 [z]) e32
      · simp [L_length]; omega
      refine aso ?_
      refine .nil ?_
      show AW _ _ _ _ _ _
      refine .region ?_
      refine mvd ?_
      refine ad ((i + 1 : Nat) : Int) ?_ ?_
      · omega
      refine asd ?_
      refine rn ?_
      refine .gh (Gh.keep [0, 3, 4] rfl) ?_
      have := ih (i + 1) (by omega) (by omega)
      rw [htk, ← L_snoc] at this
      exact this
    · rw [decide_eq_false (show ¬ (i : Int) < ((L a).length : Nat) by rw [L_length]; omega)]
      refine cndf ?_
      refine .gh (Gh.keep [3] rfl) ?_
      refine .exit ?_
      have e1 : (shR 1 a).take i = shR 1 a := List.take_of_length_le (by omega)
      exact ⟨by rw [e1]; rfl, rfl⟩
  rintro _ _ ⟨rfl, rfl⟩
  refine .gh (Gh.frz (p := .t 3) rfl (fun _ _ h => by cases h)) ?_
  refine .seq ?_
  refine .region ?_
  refine mvd ?_
  refine cl (xs := [.sl (L (shR 1 a))]) ?_ (refTrim_fn s2 (by omega)) Tryz.call70
  refine aso ?_
  refine rn ?_
  refine .ret ?_
  exact ⟨by rw [s1]; rfl, rfl⟩

theorem gcd_even {k y : Nat} (h : y % 2 = 1) : Nat.gcd (2 * k) y = Nat.gcd k y := by
  have hc : Nat.Coprime 2 y := by rw [Nat.coprime_iff_gcd_eq_one, Nat.gcd_rec, h]; decide
  exact hc.gcd_mul_left_cancel k
theorem gcd_halfL {x y : Nat} (hx : x % 2 = 0) (h : y % 2 = 1) : Nat.gcd (x / 2) y = Nat.gcd x y := by
  have := gcd_even (k := x / 2) h
  rw [show 2 * (x / 2) = x by omega] at this
  exact this.symm
theorem gcd_halfR {x y : Nat} (hx : x % 2 = 1) (h : y % 2 = 0) : Nat.gcd x (y / 2) = Nat.gcd x y := by
  rw [Nat.gcd_comm x, Nat.gcd_comm x]; exact gcd_halfL h hx
theorem gcd_subL {x y : Nat} (h : y ≤ x) : Nat.gcd (x - y) y = Nat.gcd x y := by
  have := Nat.gcd_sub_mul_right_left (m := y) (n := x) (k := 1) (by omega)
  rwa [Nat.one_mul] at this
theorem gcd_subR {x y : Nat} (h : x ≤ y) : Nat.gcd x (y - x) = Nat.gcd x y := by
  rw [Nat.gcd_comm x, Nat.gcd_comm x]; exact gcd_subL h
theorem gcd_end {x y : Nat} (h : x = 0 ∨ y = 0) : x + y = Nat.gcd x y := by
  rcases h with rfl | rfl <;> simp
theorem two_lim {x t M V : Nat} (h : x * 2 ^ t = V) (hx : 0 < x) (hV : V < 4294967296 ^ M) : t < 32 * M := by
  have h1 : 2 ^ t ≤ V := by rw [← h]; exact Nat.le_mul_of_pos_left _ hx
  have h2 : 2 ^ t < 2 ^ (32 * M) := by rw [Nat.pow_mul]; exact Nat.lt_of_le_of_lt h1 hV
  exact (Nat.pow_lt_pow_iff_right (by decide)).1 h2
theorem two_up {x t V : Nat} (h : x * 2 ^ t = V) (he : x % 2 = 0) : x / 2 * 2 ^ (t + 1) = V := by
  have : x = 2 * (x / 2) := by omega
  generalize x / 2 = k at *
  subst this
  rw [← h, Nat.pow_succ]; grind
theorem digs_head {x : Nat} (h : 0 < x) : (digs x)[0]? = some (x % 4294967296) := by
  rw [digs_pos (by omega)]; rfl
theorem par32 (x : Nat) : decide (((x % 4294967296 % 2 : Nat) : Int) = 0) = decide (x % 2 = 0) := by
  rw [show x % 4294967296 % 2 = x % 2 by omega]
  by_cases h : x % 2 = 0
  · rw [h]; rfl
  · rw [decide_eq_false h, decide_eq_false (by omega)]
theorem pos_ln {x : Nat} (h : 0 < x) : (0 : Int) < ((L (digs x)).length : Nat) := by
  have := digs_ne h
  rw [L_length]; omega
theorem cmp_ge {x y : Nat} : (0 : Int) ≤ cmpN x y ↔ y ≤ x := by
  unfold cmpN
  by_cases h1 : x < y
  · rw [if_pos h1]; omega
  · rw [if_neg h1]; split <;> omega
theorem minN_of {x y : Nat} (h : y ≤ x) : minN x y = x - y := by
  unfold minN; split <;> omega
theorem ref_gcd_fn {M : Nat} {a b : List Nat} (ha : Ok a) (hb : Ok b) (hla : a.length ≤ M) (hlb : b.length ≤ M) (hM : M ≤ 100000) : Fn Tryz.prog 100 [.sl (L a), .sl (L b)] (.d (.sl (L (digs (Nat.gcd (val a) (val b)))))) := by
  have hva : val a < 4294967296 ^ M := Nat.lt_of_lt_of_le (val_lt ha) (Nat.pow_le_pow_right (by decide) hla)
  have hvb : val b < 4294967296 ^ M := Nat.lt_of_lt_of_le (val_lt hb) (Nat.pow_le_pow_right (by decide) hlb)
  have hgl : Nat.gcd (val a) (val b) < 4294967296 ^ M := gcd_lt hva hvb
  have dl : ∀ {x : Nat}, x < 4294967296 ^ M → (digs x).length ≤ 100000 := fun h => Nat.le_trans (digs_len h) hM
  refine Fn.of (rs := [.tmp 4]) (nt := 90) Tryz.func100 rfl rfl rfl (by simp) rfl ?_
  refine .seq ?_
  refine .region ?_
  refine asn ?_
  refine rn ?_
  refine .seq ?_
  refine .region ?_
  refine mvd ?_
  refine cl (xs := [.sl (L a)]) ?_ (refTrim_fn ha (by omega)) Tryz.call70
  refine mvd ?_
  refine cl (xs := [.sl (L b)]) ?_ (refTrim_fn hb (by omega)) Tryz.call70
  refine aso ?_
  refine aso ?_
  refine rn ?_
  refine .gh (Gh.frz (p := .t 0) rfl (fun _ _ h => by cases h)) ?_
  refine .gh (Gh.frz (p := .t 1) rfl (fun _ _ h => by cases h)) ?_
  refine .seq ?_
  refine .region ?_
  refine asd ?_
  refine rn ?_
  refine .gh (Gh.keep [0, 1, 5] rfl) ?_
  refine .mid (fun e H' => H' = [] ∧ ∃ x y t, x < 4294967296 ^ M ∧ y < 4294967296 ^ M ∧ t ≤ 32 * M ∧ x * 2 ^ t = val a ∧ y * 2 ^ t = val b ∧ (x = 0 ∨ y = 0 ∨ x % 2 = 1 ∨ y % 2 = 1) ∧ e = [(0, .d (.sl (L (digs x)))), (1, .d (.sl (L (digs y)))), (5, .d (.i .i64 (t : Int)))]) ?_ ?_
  · refine .block ?_
    refine .loop ?_
    refine AL.ind (σ := Nat × Nat × Nat) (m := fun s => s.1) (e := fun s => [(0, .d (.sl (L (digs s.1)))), (1, .d (.sl (L (digs s.2.1)))), (5, .d (.i .i64 (s.2.2 : Int)))]) (h := fun _ => [])
      (I := fun s => s.1 < 4294967296 ^ M ∧ s.2.1 < 4294967296 ^ M ∧ s.2.2 ≤ 32 * M ∧ s.1 * 2 ^ s.2.2 = val a ∧ s.2.1 * 2 ^ s.2.2 = val b) ?_ (val a, val b, 0) ⟨hva, hvb, Nat.zero_le _, by simp, by simp⟩
    rintro ⟨x, y, t⟩ ⟨h1, h2, h3, h4, h5⟩ ih
    dsimp only at h1 h2 h3 h4 h5 ih ⊢
    refine .mid (fun e H' => H' = [] ∧ 0 < x ∧ 0 < y ∧ x % 2 = 0 ∧ y % 2 = 0 ∧ e = [(0, .d (.sl (L (digs x)))), (1, .d (.sl (L (digs y)))), (5, .d (.i .i64 (t : Int)))]) ?_ ?_
    · refine .seq ?_
      refine .region ?_
      refine mvd ?_
      refine ln ?_ (L_sz _) l32
      refine bi ?_
      refine mvd ?_
      by_cases hx : x = 0
      · rw [hx, decide_eq_false (show ¬ (0 : Int) < ((L (digs 0)).length : Nat) by rw [digs_zero]; decide)]
        refine gf ?_
        refine gf ?_
        refine gf ?_
        refine pkd ?_
        refine mvd ?_
        refine gf ?_
        refine gf ?_
        refine gf ?_
        refine gf ?_
        refine gf ?_
        refine pkd ?_
        refine mvd ?_
        refine gf ?_
        refine gf ?_
        refine gf ?_
        refine gf ?_
        refine gf ?_
        refine pkd ?_
        refine rn ?_
        refine cndf ?_
        refine .gh (Gh.keep [0, 1, 5] rfl) ?_
        refine .exit ?_
        subst hx
        exact ⟨rfl, 0, y, t, h1, h2, h3, h4, h5, .inl rfl, rfl⟩
      rw [decide_eq_true (pos_ln (show 0 < x by omega))]
      refine mvd ?_
      refine ln ?_ (L_sz _) l32
      refine bi ?_
      by_cases hy : y = 0
      · rw [hy, decide_eq_false (show ¬ (0 : Int) < ((L (digs 0)).length : Nat) by rw [digs_zero]; decide)]
        refine pkd ?_
        refine mvd ?_
        refine gf ?_
        refine gf ?_
        refine gf ?_
        refine gf ?_
        refine gf ?_
        refine pkd ?_
        refine mvd ?_
        refine gf ?_
        refine gf ?_
        refine gf ?_
        refine gf ?_
        refine gf ?_
        refine pkd ?_
        refine rn ?_
        refine cndf ?_
        refine .gh (Gh.keep [0, 1, 5] rfl) ?_
        refine .exit ?_
        subst hy
        exact ⟨rfl, x, 0, t, h1, h2, h3, h4, h5, .inr (.inl rfl), rfl⟩
      rw [decide_eq_true (pos_ln (show 0 < y by omega))]
      refine pkd ?_
      refine mvd ?_
      refine mvd ?_
      refine ix 0 ?_ rfl (L_at (digs_head (show 0 < x by omega))) rfl s32
      refine ldp ?_ a32
      refine bie (.i .u32 ((x % 4294967296 % 2 : Nat) : Int)) ?_ ?_
      · exact ⟨trivial, by rw [u32_and1 _ (Nat.mod_lt _ (by decide))]⟩
      refine bi ?_
      rw [par32]
      by_cases hx2 : x % 2 = 0
      · rw [decide_eq_true hx2]
        refine pkd ?_
        refine mvd ?_
        refine mvd ?_
        refine ix 0 ?_ rfl (L_at (digs_head (show 0 < y by omega))) rfl s32
        refine ldp ?_ a32
        refine bie (.i .u32 ((y % 4294967296 % 2 : Nat) : Int)) ?_ ?_
        · exact ⟨trivial, by rw [u32_and1 _ (Nat.mod_lt _ (by decide))]⟩
        refine bi ?_
        rw [par32]
        by_cases hy2 : y % 2 = 0
        · rw [decide_eq_true hy2]
          refine pkd ?_
          refine rn ?_
          refine cndt ?_
          refine .gh (Gh.keep [0, 1, 5] rfl) ?_
          refine .skip ?_
          exact ⟨rfl, by omega, by omega, hx2, hy2, rfl⟩
        · rw [decide_eq_false hy2]
          refine pkd ?_
          refine rn ?_
          refine cndf ?_
          refine .gh (Gh.keep [0, 1, 5] rfl) ?_
          refine .exit ?_
          exact ⟨rfl, x, y, t, h1, h2, h3, h4, h5, .inr (.inr (.inr (by omega))), rfl⟩
      · rw [decide_eq_false hx2]
        refine pkd ?_
        refine mvd ?_
        refine gf ?_
        refine gf ?_
        refine gf ?_
        refine gf ?_
        refine gf ?_
        refine pkd ?_
        refine rn ?_
        refine cndf ?_
        refine .gh (Gh.keep [0, 1, 5] rfl) ?_
        refine .exit ?_
        exact ⟨rfl, x, y, t, h1, h2, h3, h4, h5, .inr (.inr (.inl (by omega))), rfl⟩
    rintro _ _ ⟨rfl, hx, hy, hx2, hy2, rfl⟩
    have hlim := two_lim h4 hx hva
    have f1 := half_fn (a := digs x) (digs_ok x) (Nat.le_trans (dl h1) (by decide))
    have f2 := half_fn (a := digs y) (digs_ok y) (Nat.le_trans (dl h2) (by decide))
    rw [val_digs] at f1 f2
    refine .block ?_
    refine .seq ?_
    refine .region ?_
    refine mvd ?_
    refine cl (xs := [.sl (L (digs x))]) ?_ f1 Tryz.call106
    refine mvd ?_
    refine cl (xs := [.sl (L (digs y))]) ?_ f2 Tryz.call106
    refine aso ?_
    refine aso ?_
    refine rn ?_
    refine .gh (Gh.frz (p := .t 0) rfl (fun _ _ h => by cases h)) ?_
    refine .gh (Gh.frz (p := .t 1) rfl (fun _ _ h => by cases h)) ?_
    refine .gh (Gh.keep [0, 1, 5] rfl) ?_
    refine .region ?_
    refine mvd ?_
    refine ad ((t + 1 : Nat) : Int) ?_ ?_
    · omega
    refine asd ?_
    refine .nil ?_
    refine AL.gh (Gh.keep [0, 1, 5] rfl) ?_
    exact ih (x / 2, y / 2, t + 1) ⟨by dsimp only; omega, by dsimp only; omega, by dsimp only; omega, two_up h4 hx2, two_up h5 hy2⟩ (by dsimp only; omega)
  rintro _ _ ⟨rfl, x0, y0, t, h1, h2, h3, h4, h5, h6, rfl⟩
  have hG : Nat.gcd x0 y0 * 2 ^ t = Nat.gcd (val a) (val b) := by rw [← h4, ← h5, Nat.gcd_mul_right]
  rw [← hG] at hgl ⊢
  have htl : 32 * M ≤ 3200000 := by omega
  clear h4 h5 hG
  refine .mid (fun e H' => H' = [] ∧ ∃ x y, x < 4294967296 ^ M ∧ y < 4294967296 ^ M ∧ x + y = Nat.gcd x0 y0 ∧ e = [(0, .d (.sl (L (digs x)))), (1, .d (.sl (L (digs y)))), (5, .d (.i .i64 (t : Int)))]) ?_ ?_
  · refine .block ?_
    refine .loop ?_
    refine AL.ind (σ := Nat × Nat) (m := fun s => s.1 + s.2) (e := fun s => [(0, .d (.sl (L (digs s.1)))), (1, .d (.sl (L (digs s.2)))), (5, .d (.i .i64 (t : Int)))]) (h := fun _ => [])
      (I := fun s => s.1 < 4294967296 ^ M ∧ s.2 < 4294967296 ^ M ∧ Nat.gcd s.1 s.2 = Nat.gcd x0 y0 ∧ (s.1 = 0 ∨ s.2 = 0 ∨ s.1 % 2 = 1 ∨ s.2 % 2 = 1)) ?_ (x0, y0) ⟨h1, h2, rfl, h6⟩
    rintro ⟨x, y⟩ ⟨g1, g2, g3, g4⟩ ih
    dsimp only at g1 g2 g3 g4 ih ⊢
    refine .mid (fun e H' => H' = [] ∧ 0 < x ∧ 0 < y ∧ e = [(0, .d (.sl (L (digs x)))), (1, .d (.sl (L (digs y)))), (5, .d (.i .i64 (t : Int)))]) ?_ ?_
    · refine .seq ?_
      refine .region ?_
      refine mvd ?_
      refine ln ?_ (L_sz _) l32
      refine bi ?_
      refine mvd ?_
      by_cases hx : x = 0
      · rw [hx, decide_eq_false (show ¬ (0 : Int) < ((L (digs 0)).length : Nat) by rw [digs_zero]; decide)]
        refine gf ?_
        refine gf ?_
        refine gf ?_
        refine pkd ?_
        refine rn ?_
        refine cndf ?_
        refine .gh (Gh.keep [0, 1, 5] rfl) ?_
        refine .exit ?_
        subst hx
        exact ⟨rfl, 0, y, g1, g2, by rw [gcd_end (.inl rfl), g3], rfl⟩
      rw [decide_eq_true (pos_ln (show 0 < x by omega))]
      refine mvd ?_
      refine ln ?_ (L_sz _) l32
      refine bi ?_
      by_cases hy : y = 0
      · rw [hy, decide_eq_false (show ¬ (0 : Int) < ((L (digs 0)).length : Nat) by rw [digs_zero]; decide)]
        refine pkd ?_
        refine rn ?_
        refine cndf ?_
        refine .gh (Gh.keep [0, 1, 5] rfl) ?_
        refine .exit ?_
        subst hy
        exact ⟨rfl, x, 0, g1, g2, by rw [gcd_end (.inr rfl), g3], rfl⟩
      rw [decide_eq_true (pos_ln (show 0 < y by omega))]
      refine pkd ?_
      refine rn ?_
      refine cndt ?_
      refine .gh (Gh.keep [0, 1, 5] rfl) ?_
      refine .skip ?_
      exact ⟨rfl, by omega, by omega, rfl⟩
    rintro _ _ ⟨rfl, hx, hy, rfl⟩
    refine .block ?_
    refine .block ?_
    refine .seq ?_
    refine .region ?_
    refine mvd ?_
    refine ix 0 ?_ rfl (L_at (digs_head hx)) rfl s32
    refine ldp ?_ a32
    refine bie (.i .u32 ((x % 4294967296 % 2 : Nat) : Int)) ?_ ?_
    · exact ⟨trivial, by rw [u32_and1 _ (Nat.mod_lt _ (by decide))]⟩
    refine bi ?_
    refine asd ?_
    refine rn ?_
    rw [par32]
    by_cases hx2 : x % 2 = 0
    · rw [decide_eq_true hx2]
      have f1 := half_fn (a := digs x) (digs_ok x) (Nat.le_trans (dl g1) (by decide))
      rw [val_digs] at f1
      refine cndt ?_
      refine .gh (Gh.keep [0, 1, 5] rfl) ?_
      refine .region ?_
      refine mvd ?_
      refine cl (xs := [.sl (L (digs x))]) ?_ f1 Tryz.call106
      refine aso ?_
      refine RL.gh (Gh.frz (p := .t 0) rfl (fun _ _ h => by cases h)) ?_
      refine .nil ?_
      refine AL.gh (Gh.keep [0, 1, 5] rfl) ?_
      exact ih (x / 2, y) ⟨by dsimp only; omega, g2, by dsimp only; rw [← g3]; exact gcd_halfL hx2 (by omega), .inr (.inr (.inr (by dsimp only; omega)))⟩ (by dsimp only; omega)
    rw [decide_eq_false hx2]
    refine cndf ?_
    refine .gh (Gh.keep [0, 1, 5] rfl) ?_
    refine .seq ?_
    refine .region ?_
    refine mvd ?_
    refine ix 0 ?_ rfl (L_at (digs_head hy)) rfl s32
    refine ldp ?_ a32
    refine bie (.i .u32 ((y % 4294967296 % 2 : Nat) : Int)) ?_ ?_
    · exact ⟨trivial, by rw [u32_and1 _ (Nat.mod_lt _ (by decide))]⟩
    refine bi ?_
    refine asd ?_
    refine rn ?_
    rw [par32]
    by_cases hy2 : y % 2 = 0
    · rw [decide_eq_true hy2]
      have f1 := half_fn (a := digs y) (digs_ok y) (Nat.le_trans (dl g2) (by decide))
      rw [val_digs] at f1
      refine cndt ?_
      refine .gh (Gh.keep [0, 1, 5] rfl) ?_
      refine .region ?_
      refine mvd ?_
      refine cl (xs := [.sl (L (digs y))]) ?_ f1 Tryz.call106
      refine aso ?_
      refine RL.gh (Gh.frz (p := .t 1) rfl (fun _ _ h => by cases h)) ?_
      refine .nil ?_
      refine AL.gh (Gh.keep [0, 1, 5] rfl) ?_
      exact ih (x, y / 2) ⟨g1, by dsimp only; omega, by dsimp only; rw [← g3]; exact gcd_halfR (by omega) hy2, .inr (.inr (.inl (by dsimp only; omega)))⟩ (by dsimp only; omega)
    rw [decide_eq_false hy2]
    have fc := refCompare_fn (a := digs x) (b := digs y) (digs_ok x) (digs_ok y) (Nat.le_trans (dl g1) (by decide)) (Nat.le_trans (dl g2) (by decide))
    rw [val_digs, val_digs] at fc
    refine cndf ?_
    refine .gh (Gh.keep [0, 1, 5] rfl) ?_
    refine .seq ?_
    refine .region ?_
    refine mvd ?_
    refine mvd ?_
    refine cl (xs := [.sl (L (digs x)), .sl (L (digs y))]) ?_ fc Tryz.call55
    refine bi ?_
    refine asd ?_
    refine rn ?_
    by_cases hle : y ≤ x
    · rw [decide_eq_true (cmp_ge.2 hle)]
      have fm := refMinus_fn (a := digs x) (b := digs y) (digs_ok x) (digs_ok y) (Nat.le_trans (dl g1) (by decide)) (Nat.le_trans (dl g2) (by decide))
      rw [val_digs, val_digs, minN_of hle] at fm
      refine cndt ?_
      refine .gh (Gh.keep [0, 1, 5] rfl) ?_
      refine .region ?_
      refine mvd ?_
      refine mvd ?_
      refine cl (xs := [.sl (L (digs x)), .sl (L (digs y))]) ?_ fm Tryz.call54
      refine mvt ?_
      refine ex ?_
      refine ex ?_
      refine asd ?_
      refine .nil ?_
      refine AL.gh (Gh.keep [0, 1, 5] rfl) ?_
      exact ih (x - y, y) ⟨by dsimp only; omega, g2, by dsimp only; rw [← g3]; exact gcd_subL hle, .inr (.inr (.inr (by dsimp only; omega)))⟩ (by dsimp only; omega)
    · rw [decide_eq_false (fun h => hle (cmp_ge.1 h))]
      have fm := refMinus_fn (a := digs y) (b := digs x) (digs_ok y) (digs_ok x) (Nat.le_trans (dl g2) (by decide)) (Nat.le_trans (dl g1) (by decide))
      rw [val_digs, val_digs, minN_of (show x ≤ y by omega)] at fm
      refine cndf ?_
      refine .gh (Gh.keep [0, 1, 5] rfl) ?_
      refine .region ?_
      refine mvd ?_
      refine mvd ?_
      refine cl (xs := [.sl (L (digs y)), .sl (L (digs x))]) ?_ fm Tryz.call54
      refine mvt ?_
      refine ex ?_
      refine ex ?_
      refine asd ?_
      refine .nil ?_
      refine AL.gh (Gh.keep [0, 1, 5] rfl) ?_
      exact ih (x, y - x) ⟨g1, by dsimp only; omega, by dsimp only; rw [← g3]; exact gcd_subR (by omega), .inr (.inr (.inl (by dsimp only; omega)))⟩ (by dsimp only; omega)
  rintro _ _ ⟨rfl, x, y, k1, k2, k3, rfl⟩
  have fa := Add_fn (a := digs x) (b := digs y) (digs_ok x) (digs_ok y) (Nat.le_trans (dl k1) (by decide)) (Nat.le_trans (dl k2) (by decide))
  rw [val_digs, val_digs, k3] at fa
  refine .seq ?_
  refine .region ?_
  refine mvd ?_
  refine mvd ?_
  refine cl (xs := [.sl (L (digs x)), .sl (L (digs y))]) ?_ fa Tryz.call56
  refine aso ?_
  refine rn ?_
  refine .gh (Gh.frz (p := .t 6) rfl (fun _ _ h => by cases h)) ?_
  refine .gh (Gh.keep [5, 6] rfl) ?_
  generalize Nat.gcd x0 y0 = G at *
  refine .mid (fun e H' => e = [(6, .d (.sl (L (digs (G * 2 ^ t)))))]) ?_ ?_
  · refine .block ?_
    refine .loop ?_
    refine AL.ind (σ := Nat × Nat) (m := fun s => s.1) (e := fun s => [(5, .d (.i .i64 (s.1 : Int))), (6, .d (.sl (L (digs s.2))))]) (h := fun _ => [])
      (I := fun s => s.1 ≤ 3200000 ∧ s.2 * 2 ^ s.1 = G * 2 ^ t) ?_ (t, G) ⟨by dsimp only; omega, rfl⟩
    rintro ⟨s, g⟩ ⟨g1, g2⟩ ih
    dsimp only at g1 g2 ih ⊢
    have hgv : g < 4294967296 ^ M := by
      have : g ≤ g * 2 ^ s := Nat.le_mul_of_pos_right _ (Nat.pow_pos (by decide))
      omega
    refine .seq ?_
    refine .seq ?_
    refine .region ?_
    refine mvd ?_
    refine bi ?_
    refine rn ?_
    cases s with
    | zero =>
      refine cndf ?_
      refine .gh (Gh.keep [6] rfl) ?_
      refine .exit ?_
      rw [← g2, Nat.pow_zero, Nat.mul_one]; rfl
    | succ s =>
      have ft := twice_fn (a := digs g) (c0 := 0) (digs_ok g) (Nat.le_trans (dl hgv) (by decide)) (by decide)
      rw [val_digs, Nat.add_zero] at ft
      rw [decide_eq_true (show (0 : Int) < ((s + 1 : Nat) : Int) by omega)]
      refine cndt ?_
      refine .skip ?_
      show AW _ _ _ _ _ _
      refine .seq ?_
      refine .block ?_
      refine .region ?_
      refine mvd ?_
      refine cl (xs := [.sl (L (digs g)), .i .u32 ((0 : Nat) : Int)]) ?_ ft Tryz.call96
      refine aso ?_
      refine RL.gh (Gh.frz (p := .t 6) rfl (fun _ _ h => by cases h)) ?_
      refine .nil ?_
      show AW _ _ _ _ _ _
      refine .region ?_
      refine mvd ?_
      refine su (s : Int) ?_ ?_
      · omega
      refine asd ?_
      refine rn ?_
      refine .gh (Gh.keep [5, 6] rfl) ?_
      exact ih (s, 2 * g) ⟨by dsimp only; omega, by dsimp only; rw [← g2, Nat.pow_succ]; grind⟩ (by dsimp only; omega)
  rintro _ _ rfl
  refine .seq ?_
  refine .region ?_
  refine mvd ?_
  refine asd ?_
  refine rn ?_
  refine .ret ?_
  exact ⟨rfl, rfl⟩
end Go.FL
/-
  glyphref01.Gcd.
-/
namespace Go.FL
open Go Go.Proofs

theorem refGcd_fn {M : Nat} {ls : List (List Nat)} (h : ∀ a ∈ ls, Ok a) (hM : ∀ a ∈ ls, a.length ≤ M) (hl : ls.length ≤ 1000) (hM2 : M ≤ 100000) : Fn Tryz.prog 69 [.sl (LL ls)] (.d (.sl (L (digs (gcdF ls))))) := by
  have hv : ∀ a ∈ ls, val a < 4294967296 ^ M := fun a ha => Nat.lt_of_lt_of_le (val_lt (h a ha)) (Nat.pow_le_pow_right (by decide) (hM a ha))
  have hP : 0 < 4294967296 ^ M := Nat.pow_pos (by decide)
  refine Fn.of (rs := [.tmp 2]) (nt := 18) Tryz.func69 rfl rfl rfl (by simp) rfl ?_
  refine .seq ?_
  refine .region ?_
  refine asn ?_
  refine rn ?_
  refine .seq ?_
  refine .region ?_
  refine asn ?_
  refine rn ?_
  refine .mid (fun e H' => e = [(3, .d (.sl (L (digs (gcdF ls)))))]) ?_ ?_
  · refine .seq ?_
    refine .region ?_
    refine asd ?_
    refine rn ?_
    refine .block ?_
    refine .gh (Gh.nlD (t := 3) rfl) ?_
    refine .loop (.gh (Gh.keep [0, 3, 4] rfl) ?_)
    refine AL.cast (env' := [(0, .d (.sl (LL ls))), (3, .d (.sl (L (digs (gcdF (ls.take 0)))))), (4, .d (.i .i64 ((0 : Nat) : Int)))]) (by rw [List.take_zero]; show _ = [(0, AV.d (.sl (LL ls))), (3, AV.d (.sl (L (digs 0)))), _]; rw [digs_zero]; rfl) ?_
    refine AL.ind (σ := Nat) (m := fun i => ls.length - i) (e := fun i => [(0, .d (.sl (LL ls))), (3, .d (.sl (L (digs (gcdF (ls.take i)))))), (4, .d (.i .i64 (i : Int)))]) (h := fun _ => [])
      (I := fun i => i ≤ ls.length ∧ gcdF (ls.take i) < 4294967296 ^ M) ?_ 0 ⟨Nat.zero_le _, by rw [List.take_zero]; exact hP⟩
    rintro i ⟨h1, h2⟩ ih
    refine .seq ?_
    refine .seq ?_
    refine .region ?_
    refine mvd ?_
    refine mvd ?_
    refine ln ?_ (LL_sz _) l2
    refine bi ?_
    refine rn ?_
    by_cases hi : i < ls.length
    · rw [decide_eq_true (show (i:Int) < ((LL ls).length : Nat) by rw [LL_length]; omega)]
      have hy : ls[i]? = some ls[i] := List.getElem?_eq_getElem hi
      have htk : ls.take (i + 1) = ls.take i ++ [ls[i]] := List.take_succ_eq_append_getElem hi
      generalize ls[i] = y at hy htk
      have hyo := h y (List.mem_of_getElem? hy)
      have hyl := hM y (List.mem_of_getElem? hy)
      have hyv := hv y (List.mem_of_getElem? hy)
      have hst : gcdF (ls.take (i + 1)) = Nat.gcd (gcdF (ls.take i)) (val y) := by rw [htk, gcdF_snoc]
      generalize gcdF (ls.take i) = g at *
      have fg := ref_gcd_fn (M := M) (a := digs g) (b := y) (digs_ok g) hyo (digs_len h2) hyl hM2
      rw [val_digs, ← hst] at fg
      refine cndt ?_
      refine .skip ?_
      show AW _ _ _ _ _ _
      refine .seq ?_
      refine .block ?_
      refine .region ?_
      refine mvd ?_
      refine mvd ?_
      refine mvd ?_
      refine ix i ?_ rfl (LL_at hy) rfl s2
      refine ldp ?_ a2
      refine cl (xs := [.sl (L (digs g)), .sl (L y)]) ?_ fg Tryz.call100
      refine asd ?_
      refine .nil ?_
      show AW _ _ _ _ _ _
      refine .region ?_
      refine mvd ?_
      refine ad ((i + 1 : Nat) : Int) ?_ ?_
      · omega
      refine asd ?_
      refine rn ?_
      refine .gh (Gh.keep [0, 3, 4] rfl) ?_
      exact ih (i + 1) ⟨by omega, by rw [hst]; exact gcd_lt h2 hyv⟩ (by omega)
    · rw [decide_eq_false (show ¬ (i:Int) < ((LL ls).length : Nat) by rw [LL_length]; omega)]
      refine cndf ?_
      refine .gh (Gh.keep [3] rfl) ?_
      refine .exit ?_
      have e1 : ls.take i = ls := List.take_of_length_le (by omega)
      show _ = _
      rw [e1]; rfl
  rintro _ _ rfl
  refine .seq ?_
  refine .region ?_
  refine mvd ?_
  refine asd ?_
  refine rn ?_
  refine .ret ?_
  exact ⟨rfl, rfl⟩
end Go.FL
/-
  Types of the layer rat: numbers as structs.
-/
namespace Go.FL
open Go Go.Proofs

/-- An api.Rat, a rat.number, a rat.size. -/
abbrev Rv (b : Bool) (n d : List Nat) : DV := .ag [.b b, .sl (L n), .sl (L d)]
abbrev Nv (b : Bool) (n d : List Nat) : DV := .ag [.sl (L n), .sl (L d), .b b]
abbrev Zv (n d : List Nat) : DV := .ag [.sl (L n), .sl (L d)]
theorem fR0 : fieldT Tryz.prog 24 0 = some (0, 1) := by kernel_rfl
theorem fR1 : fieldT Tryz.prog 24 1 = some (1, 1) := by kernel_rfl
theorem fR2 : fieldT Tryz.prog 24 2 = some (2, 1) := by kernel_rfl
theorem fN0 : fieldT Tryz.prog 63 0 = some (0, 2) := by kernel_rfl
theorem fN1 : fieldT Tryz.prog 63 1 = some (2, 1) := by kernel_rfl
theorem fZ0 : fieldT Tryz.prog 61 0 = some (0, 1) := by kernel_rfl
theorem fZ1 : fieldT Tryz.prog 61 1 = some (1, 1) := by kernel_rfl
theorem aR : aggT Tryz.prog 24 = some true := by kernel_rfl
theorem aN : aggT Tryz.prog 63 = some true := by kernel_rfl
theorem aZ : aggT Tryz.prog 61 = some true := by kernel_rfl
theorem sR : szOf Tryz.prog 24 = 3 := by kernel_rfl
theorem sN : szOf Tryz.prog 63 = 3 := by kernel_rfl
theorem sZ : szOf Tryz.prog 61 = 2 := by kernel_rfl
theorem pR : structT Tryz.prog 24 = some [(0, 1), (1, 1), (2, 1)] := by kernel_rfl
theorem pN : structT Tryz.prog 63 = some [(0, 2), (2, 1)] := by kernel_rfl
theorem pZ : structT Tryz.prog 61 = some [(0, 1), (1, 1)] := by kernel_rfl
theorem iR : (Tryz.prog.info? 24).bind (·.zero) = some (.agg #[.bool false, .slice none 0 0, .slice none 0 0]) := by kernel_rfl
theorem iN : (Tryz.prog.info? 63).bind (·.zero) = some (.agg #[.slice none 0 0, .slice none 0 0, .bool false]) := by kernel_rfl
theorem iZ : (Tryz.prog.info? 61).bind (·.zero) = some (.agg #[.slice none 0 0, .slice none 0 0]) := by kernel_rfl
theorem zero_of {P : Program} {t : TypeId} {z : Value} (h : (P.info? t).bind (·.zero) = some z) (w : World) : (zeroValue t).run P w = .ok z w := by
  cases hi : P.info? t with
  | none => rw [hi] at h; cases h
  | some i =>
    rw [hi] at h
    simp only [Option.bind_some] at h
    simp [zeroValue, typeInfo, hi, h]
theorem rR (w : World) (I : Nat → Prop) : RepAll w I [.b false, .sl [], .sl []] (Value.agg #[.bool false, .slice none 0 0, .slice none 0 0]).cells.toList := .cons (.b _) (.cons (.sl0 _ _) (.cons (.sl0 _ _) .nil))
theorem rN (w : World) (I : Nat → Prop) : RepAll w I [.sl [], .sl [], .b false] (Value.agg #[.slice none 0 0, .slice none 0 0, .bool false]).cells.toList := .cons (.sl0 _ _) (.cons (.sl0 _ _) (.cons (.b _) .nil))
theorem rZ (w : World) (I : Nat → Prop) : RepAll w I [.sl [], .sl []] (Value.agg #[.slice none 0 0, .slice none 0 0]).cells.toList := .cons (.sl0 _ _) (.cons (.sl0 _ _) .nil)
theorem aB : aggT Tryz.prog 4 = some false := by kernel_rfl
theorem aS : aggT Tryz.prog 22 = some false := by kernel_rfl
end Go.FL
/-
  rat: one, of, cross, lowest, Make.
-/
namespace Go.FL
open Go Go.Proofs

theorem LL_flat (ls : List (List Nat)) : ∀ d ∈ LL ls, d.flat = true ∧ d.cells.length = 1 := by
  intro d hd
  simp only [LL, List.mem_map] at hd
  obtain ⟨n, _, rfl⟩ := hd
  exact ⟨rfl, rfl⟩
theorem noBpL_d : ∀ vs : List DV, noBpL (vs.map .d) = true
  | [] => rfl
  | v :: vs => by simp only [List.map_cons, noBpL, noBp, noBpL_d vs, Bool.and_self]
theorem noBp_d (vs : List DV) : noBp (.tup (vs.map .d)) = true := by simp only [noBp, noBpL_d vs]
theorem L_flat (l : List Nat) : ∀ d ∈ L l, d.flat = true ∧ d.cells.length = 1 := by
  intro d hd
  simp only [L, List.mem_map] at hd
  obtain ⟨n, _, rfl⟩ := hd
  exact ⟨rfl, rfl⟩

theorem one_fn : Fn Tryz.prog 34 [] (.own 40 (L [1])) := by
  refine Fn.of (rs := [.tmp 0]) (nt := 2) Tryz.func34 rfl rfl rfl (by simp) rfl ?_
  refine .seq ?_
  refine .region ?_
  refine asn ?_
  refine rn ?_
  refine .seq ?_
  refine .region ?_
  refine bsl ?_ ?_ e32
  · simp [DV.flat, DV.cells, DV.leaf]
  refine aso ?_
  refine rn ?_
  refine .ret ?_
  exact ⟨rfl, rfl⟩

theorem of_fn (b : Bool) (n d : List Nat) : Fn Tryz.prog 61 [Rv b n d] (.d (Nv b n d)) := by
  refine Fn.ofC (rs := [.cell 2 63]) (nt := 11) Tryz.func61 rfl rfl rfl (by simp) rfl ?_
  refine .seq ?_
  refine .region ?_
  refine vk vbx ?_
  refine vk (van (zero_of iN) rN) ?_
  refine rn ?_
  refine .seq ?_
  refine .region ?_
  refine vk (vfa fR1) ?_
  refine ldp ?_ aS
  refine vk (vfa fR2) ?_
  refine ldp ?_ aS
  refine vk (vbd pZ iZ rZ) ?_
  refine vk (vfa fR0) ?_
  refine ldp ?_ aB
  refine vk (vbd pN iN rN) ?_
  refine stn ?_ sN (by decide)
  refine rn ?_
  refine .ret ?_
  exact ⟨_, ⟨.inr rfl, aN, sN, (by decide : (0 : Nat) < 3)⟩, rfl⟩

theorem cross_fn {n d m e : List Nat} (hn : Ok n) (he : Ok e) (hln : n.length ≤ 4000) (hle : e.length ≤ 4000) : Fn Tryz.prog 99 [Zv n d, Zv m e] (.d (.sl (L (digs (val n * val e))))) := by
  have p1 := prods_fn (M := 4000) (ls := [n, e]) (by simp [hn, he]) (by simp [hln, hle]) (by simp) (by decide)
  rw [show prodF [n, e] 1 = val n * val e by show 1 * val n * val e = _; rw [Nat.one_mul]] at p1
  refine Fn.of (rs := [.tmp 4]) (nt := 11) Tryz.func99 rfl rfl rfl (by simp) rfl ?_
  refine .seq ?_
  refine .region ?_
  refine vk vbx ?_
  refine vk vbx ?_
  refine asn ?_
  refine rn ?_
  refine .seq ?_
  refine .region ?_
  refine vk (vfa fZ0) ?_
  refine ldp ?_ aS
  refine vk (vfa fZ1) ?_
  refine ldp ?_ aS
  refine bsl ?_ ?_ e2
  · simp [DV.flat, DV.cells, DV.leaf]
  refine fz (p := .t 9) ?_
  refine cl (xs := [.sl (LL [n, e])]) ?_ p1 Tryz.call47
  refine asd ?_
  refine rn ?_
  refine .ret ?_
  exact ⟨rfl, rfl⟩

/-- In lowest terms, or an error: what (number).lowest gives. -/
def lowN (b : Bool) (n d : Nat) : List DV :=
  if Nat.gcd n d = 0 then [Rv false [] [], .i .i64 22]
  else if 32 < (digs (n / Nat.gcd n d)).length ∨ 32 < (digs (d / Nat.gcd n d)).length then [Rv false [] [], .i .i64 8]
  else [Rv (b && decide (n / Nat.gcd n d ≠ 0)) (digs (n / Nat.gcd n d)) (digs (d / Nat.gcd n d)), .i .i64 0]
theorem pos_digs {n : Nat} : decide ((0 : Int) < ((L (digs n)).length : Nat)) = decide (n ≠ 0) := by
  by_cases h : n = 0
  · subst h; rw [digs_zero]; rfl
  · have := digs_ne (m := n) (by omega)
    rw [decide_eq_true h, decide_eq_true (by rw [L_length]; omega)]

theorem lowest_fn {M : Nat} {b : Bool} {n d : List Nat} (hn : Ok n) (hd : Ok d) (hln : n.length ≤ M) (hld : d.length ≤ M) (hM : M ≤ 100000) : Fn Tryz.prog 63 [Nv b n d] (.tup ((lowN b (val n) (val d)).map .d)) := by
  have g1 := Gcd_fn (M := M) (ls := [n, d]) (by simp [hn, hd]) (by simp [hln, hld]) (by simp) (by omega)
  rw [show gcdF [n, d] = Nat.gcd (val n) (val d) by show Nat.gcd (Nat.gcd 0 (val n)) (val d) = _; rw [Nat.gcd_zero_left]] at g1
  have lg : (digs (Nat.gcd (val n) (val d))).length ≤ M := digs_len (gcd_lt (Nat.lt_of_lt_of_le (val_lt hn) (Nat.pow_le_pow_right (by decide) hln)) (Nat.lt_of_lt_of_le (val_lt hd) (Nat.pow_le_pow_right (by decide) hld)))
  unfold lowN
  generalize Nat.gcd (val n) (val d) = g at *
  have d1 := DivMod_fn (a := n) (b := digs g) hn (digs_ok g) (by omega) (by omega)
  have d2 := DivMod_fn (a := d) (b := digs g) hd (digs_ok g) (by omega) (by omega)
  rw [val_digs] at d1 d2
  generalize remN (val n) g = r1 at *
  generalize remN (val d) g = r2 at *
  generalize val n / g = x at *
  generalize val d / g = y at *
  refine Fn.ofC (rs := [.cell 2 24, .tmp 3]) (nt := 61) Tryz.func63 rfl rfl rfl (by simp) (noBp_d _) ?_
  refine .seq ?_
  refine .region ?_
  refine vk vbx ?_
  refine vk (van (zero_of iR) rR) ?_
  refine asd ?_
  refine rn ?_
  refine .seq ?_
  refine .region ?_
  refine vk (vfa fN0) ?_
  refine vk (vfa fZ0) ?_
  refine ldp ?_ aS
  refine vk (vfa fN0) ?_
  refine vk (vfa fZ1) ?_
  refine ldp ?_ aS
  refine bsl ?_ ?_ e2
  · simp [DV.flat, DV.cells, DV.leaf]
  refine fz (p := .t 17) ?_
  refine cl (xs := [.sl (LL [n, d])]) ?_ g1 Tryz.call78
  refine asd ?_
  refine rn ?_
  refine .gh (Gh.keep [1, 2, 3, 4] rfl) ?_
  refine .seq ?_
  refine .region ?_
  refine vk (vfa fN0) ?_
  refine vk (vfa fZ0) ?_
  refine ldp ?_ aS
  refine mvd ?_
  refine cl (xs := [.sl (L n), .sl (L (digs g))]) ?_ d1 Tryz.call53
  refine mvt ?_
  refine ex ?_
  refine ex ?_
  refine ex ?_
  refine asd ?_
  refine asd ?_
  refine asd ?_
  refine rn ?_
  refine .gh (Gh.keep [1, 2, 3, 4, 5, 7] rfl) ?_
  refine .seq ?_
  refine .region ?_
  refine vk (vfa fN0) ?_
  refine vk (vfa fZ1) ?_
  refine ldp ?_ aS
  refine mvd ?_
  refine cl (xs := [.sl (L d), .sl (L (digs g))]) ?_ d2 Tryz.call53
  refine mvt ?_
  refine ex ?_
  refine ex ?_
  refine ex ?_
  refine asd ?_
  refine asd ?_
  refine asd ?_
  refine rn ?_
  refine .gh (Gh.keep [1, 2, 3, 5, 7, 8] rfl) ?_
  refine .seq ?_
  refine .block ?_
  refine .seq ?_
  refine .region ?_
  refine mvd ?_
  refine nt_ ?_
  refine asd ?_
  refine rn ?_
  by_cases hg : g = 0
  · rw [decide_eq_false (show ¬ (g ≠ 0) from fun h => h hg), if_pos hg]
    refine cndt ?_
    refine .seq ?_
    refine .region ?_
    refine vk (vbd pR iR rR) ?_
    refine stn ?_ sR (by decide)
    refine asd ?_
    refine rn ?_
    refine .ret ?_
    exact ⟨_, _, ⟨.inr rfl, aR, sR, (by decide : (0 : Nat) < 3)⟩, rfl, rfl⟩
  rw [decide_eq_true (show g ≠ 0 from hg), if_neg hg]
  refine cndf ?_
  refine .seq ?_
  refine .region ?_
  refine mvd ?_
  refine ln ?_ (L_sz _) l32
  refine bi ?_
  by_cases hx : 32 < (digs x).length
  · rw [decide_eq_true (show (32 : Int) < ((L (digs x)).length : Nat) by rw [L_length]; omega), if_pos (.inl hx)]
    refine mvd ?_
    refine gf ?_
    refine gf ?_
    refine gf ?_
    refine pkd ?_
    refine asd ?_
    refine rn ?_
    refine cndt ?_
    refine .seq ?_
    refine .region ?_
    refine vk (vbd pR iR rR) ?_
    refine stn ?_ sR (by decide)
    refine asd ?_
    refine rn ?_
    refine .ret ?_
    exact ⟨_, _, ⟨.inr rfl, aR, sR, (by decide : (0 : Nat) < 3)⟩, rfl, rfl⟩
  rw [decide_eq_false (show ¬ (32 : Int) < ((L (digs x)).length : Nat) by rw [L_length]; omega)]
  refine mvd ?_
  refine mvd ?_
  refine ln ?_ (L_sz _) l32
  refine bi ?_
  by_cases hy : 32 < (digs y).length
  · rw [decide_eq_true (show (32 : Int) < ((L (digs y)).length : Nat) by rw [L_length]; omega), if_pos (.inr hy)]
    refine pkd ?_
    refine asd ?_
    refine rn ?_
    refine cndt ?_
    refine .seq ?_
    refine .region ?_
    refine vk (vbd pR iR rR) ?_
    refine stn ?_ sR (by decide)
    refine asd ?_
    refine rn ?_
    refine .ret ?_
    exact ⟨_, _, ⟨.inr rfl, aR, sR, (by decide : (0 : Nat) < 3)⟩, rfl, rfl⟩
  rw [decide_eq_false (show ¬ (32 : Int) < ((L (digs y)).length : Nat) by rw [L_length]; omega), if_neg (by omega)]
  refine pkd ?_
  refine asd ?_
  refine rn ?_
  refine cndf ?_
  refine .skip ?_
  show AW _ _ _ _ _ _
  refine .seq ?_
  refine .region ?_
  refine vk (vfa fN1) ?_
  refine ldp ?_ aB
  refine mvd ?_
  by_cases hb : b = true
  · subst hb
    refine mvd ?_
    refine ln ?_ (L_sz _) l32
    refine bi ?_
    rw [pos_digs]
    refine pkd ?_
    refine mvd ?_
    refine mvd ?_
    refine vk (vbd pR iR rR) ?_
    refine stn ?_ sR (by decide)
    refine asd ?_
    refine rn ?_
    refine .ret ?_
    exact ⟨_, _, ⟨.inr rfl, aR, sR, (by decide : (0 : Nat) < 3)⟩, rfl, rfl⟩
  rw [Bool.not_eq_true] at hb; subst hb
  refine gf ?_
  refine gf ?_
  refine gf ?_
  refine pkd ?_
  refine mvd ?_
  refine mvd ?_
  refine vk (vbd pR iR rR) ?_
  refine stn ?_ sR (by decide)
  refine asd ?_
  refine rn ?_
  refine .ret ?_
  exact ⟨_, _, ⟨.inr rfl, aR, sR, (by decide : (0 : Nat) < 3)⟩, rfl, rfl⟩
end Go.FL
/-
  rat, glyphref02: Right; slices.Equal, IndexFunc, ContainsFunc; right.
-/
namespace Go.FL
open Go Go.Proofs

theorem slR : sliceT Tryz.prog 57 = some (24, 3, 56) := by kernel_rfl
theorem lR : Tryz.prog.underlying 57 = some (.slice (Tryz.prog.elem 57)) := by kernel_rfl

theorem refOne_fn : Fn Tryz.prog 41 [] (.own 40 (L [1])) := by
  refine Fn.of (rs := [.tmp 0]) (nt := 2) Tryz.func41 rfl rfl rfl (by simp) rfl ?_
  refine .seq ?_
  refine .region ?_
  refine asn ?_
  refine rn ?_
  refine .seq ?_
  refine .region ?_
  refine bsl ?_ ?_ e32
  · simp [DV.flat, DV.cells, DV.leaf]
  refine aso ?_
  refine rn ?_
  refine .ret ?_
  exact ⟨rfl, rfl⟩

theorem Equal_fn (a b : List Nat) (hla : a.length ≤ 1048576) (hoa : Ok a) (hob : Ok b) : Fn Tryz.prog 33 [.sl (L a), .sl (L b)] (.d (.b (decide (a = b)))) := by
  refine Fn.of (rs := [.tmp 4]) (nt := 26) Tryz.func33 rfl rfl rfl (by simp) rfl ?_
  refine .seq ?_
  refine .region ?_
  refine asd ?_
  refine rn ?_
  refine .seq ?_
  refine .seq ?_
  refine .region ?_
  refine mvd ?_
  refine ln ?_ (L_sz _) l32
  refine mvd ?_
  refine ln ?_ (L_sz _) l32
  refine bi ?_
  refine rn ?_
  by_cases hlen : a.length ≠ b.length
  · rw [decide_eq_false (show ¬ (((L a).length : Nat) : Int) = ((L b).length : Nat) by rw [L_length, L_length]; omega)]
    refine cndt ?_
    refine .seq ?_
    refine .region ?_
    refine asd ?_
    refine rn ?_
    refine .ret ?_
    exact ⟨by rw [decide_eq_false (fun h => hlen (by rw [h]))]; rfl, rfl⟩
  rw [decide_eq_true (show (((L a).length : Nat) : Int) = ((L b).length : Nat) by rw [L_length, L_length]; omega)]
  refine cndf ?_
  refine .skip ?_
  show AW _ _ _ _ _ _
  refine .seq ?_
  refine .seq ?_
  refine .region ?_
  refine mvd ?_
  refine ln ?_ (L_sz _) l32
  refine mvd ?_
  refine rn ?_
  refine .block ?_
  refine .loop (.gh (Gh.keep [0, 1, 11, 12, 13] rfl) ?_)
  refine AL.ind (σ := Nat) (m := fun i => a.length - i) (e := fun i => [(0, .d (.sl (L a))), (1, .d (.sl (L b))), (11, .d (.sl (L a))), (12, .d (.i .i64 ((L a).length : Nat))), (13, .d (.i .i64 (i : Int)))]) (h := fun _ => [])
    (I := fun i => i ≤ a.length ∧ a.take i = b.take i) ?_ 0 ⟨Nat.zero_le _, rfl⟩
  rintro i ⟨h1, h2⟩ ih
  refine .seq ?_
  refine .region ?_
  refine bi ?_
  refine rn ?_
  refine .seq ?_
  by_cases hi : i < a.length
  · rw [decide_eq_true (show (i : Int) < ((L a).length : Nat) by rw [L_length]; omega)]
    have hx : a[i]? = some a[i] := List.getElem?_eq_getElem hi
    have hy : b[i]? = some b[i] := List.getElem?_eq_getElem (by omega)
    have hdx : a.take (i + 1) = a.take i ++ [a[i]] := List.take_succ_eq_append_getElem hi
    have hdy : b.take (i + 1) = b.take i ++ [b[i]] := List.take_succ_eq_append_getElem (by omega)
    generalize a[i] = x at hx hdx
    generalize b[i] = y at hy hdy
    refine cndt ?_
    refine .skip ?_
    show AW _ _ _ _ _ _
    refine .seq ?_
    refine .block ?_
    refine .seq ?_
    refine .region ?_
    refine mvd ?_
    refine asd ?_
    refine rn ?_
    refine .seq ?_
    refine .drawn 9 mixed (by kernel_rfl) ?_
    refine dv vmvd ?_
    refine dv vmvd ?_
    refine dv (vix i rfl (L_at hx) rfl s32) ?_
    refine dv (vldp a32) ?_
    refine dv vmvd ?_
    refine dv vmvd ?_
    refine dv (vix i rfl (L_at hy) rfl s32) ?_
    refine dv (vldp a32) ?_
    refine dv vbi ?_
    refine dz ?_
    refine rn ?_
    by_cases hxy : x ≠ y
    · rw [decide_eq_false (show ¬ (x : Int) = (y : Int) by omega)]
      refine cndt ?_
      refine .seq ?_
      refine .region ?_
      refine asd ?_
      refine rn ?_
      refine .ret ?_
      exact ⟨by rw [decide_eq_false (fun h => hxy (by rw [h] at hx; rw [hx] at hy; exact Option.some.inj hy))]; rfl, rfl⟩
    rw [decide_eq_true (show (x : Int) = (y : Int) by omega)]
    refine cndf ?_
    refine .skip ?_
    show AW _ _ _ _ _ _
    refine .region ?_
    refine ad ((i + 1 : Nat) : Int) ?_ ?_
    · omega
    refine mvd ?_
    refine .nil ?_
    refine AL.gh (Gh.keep [0, 1, 11, 12, 13] rfl) ?_
    exact ih (i + 1) ⟨by omega, by rw [hdx, hdy, h2]; congr 2; omega⟩ (by omega)
  rw [decide_eq_false (show ¬ (i : Int) < ((L a).length : Nat) by rw [L_length]; omega)]
  refine cndf ?_
  refine .exit ?_
  show AW _ _ _ _ _ _
  refine .seq ?_
  refine .region ?_
  refine asd ?_
  refine rn ?_
  refine .ret ?_
  rw [List.take_of_length_le (by omega), List.take_of_length_le (by omega)] at h2
  exact ⟨by rw [decide_eq_true h2]; rfl, rfl⟩

/-- A number in lowest terms, and not too great. -/
def RightP (b : Bool) (n d : List Nat) : Prop := digs (val n) = n ∧ digs (val d) = d ∧ n.length ≤ 32 ∧ d.length ≤ 32 ∧ d ≠ [] ∧ (n = [] → b = false) ∧ Nat.gcd (val n) (val d) = 1
instance (b : Bool) (n d : List Nat) : Decidable (RightP b n d) := by unfold RightP; infer_instance
def rightL (b : Bool) (n d : List Nat) : Bool := decide (RightP b n d)
theorem right_f {b : Bool} {n d : List Nat} (h : ¬ RightP b n d) : rightL b n d = false := decide_eq_false h
theorem digs_one_iff {g : Nat} : digs g = [1] ↔ g = 1 := by
  have one : digs 1 = [1] := one_limb (n := 1) (by decide) (by decide)
  constructor
  · intro h
    have := val_digs g
    rw [h] at this
    simpa [val] using this.symm
  · rintro rfl; exact one
theorem ne_nil_pos {l : List Nat} : l ≠ [] ↔ 0 < l.length := by
  cases l <;> simp

theorem RRight_fn {b : Bool} {n d : List Nat} (hn : Ok n) (hd : Ok d) (hln : n.length ≤ 35184372087808) (hld : d.length ≤ 35184372087808) : Fn Tryz.prog 29 [Rv b n d] (.d (.b (rightL b n d))) := by
  refine Fn.of (rs := [.tmp 2]) (nt := 50) Tryz.func29 rfl rfl rfl (by simp) rfl ?_
  refine .seq ?_
  refine .region ?_
  refine vk vbx ?_
  refine asd ?_
  refine rn ?_
  refine .seq ?_
  refine .seq ?_
  refine .region ?_
  refine vk (vfa fR1) ?_
  refine ldp ?_ aS
  refine cl (xs := [.sl (L n)]) ?_ (Right_fn hn hln) Tryz.call77
  refine nt_ ?_
  by_cases h1 : ¬ digs (val n) = n
  · rw [decide_eq_false h1]
    refine mvd ?_
    refine gf ?_
    refine gf ?_
    refine gf ?_
    refine gf ?_
    refine pkd ?_
    refine mvd ?_
    refine gf ?_
    refine gf ?_
    refine gf ?_
    refine gf ?_
    refine pkd ?_
    refine mvd ?_
    refine gf ?_
    refine gf ?_
    refine gf ?_
    refine gf ?_
    refine pkd ?_
    refine rn ?_
    refine .gh (Gh.keep [1, 24] rfl) ?_
    refine cndt ?_
    refine .seq ?_
    refine .region ?_
    refine asd ?_
    refine rn ?_
    refine .ret ?_
    exact ⟨by rw [right_f (fun h => h1 h.1)]; rfl, rfl⟩
  rw [Decidable.not_not] at h1
  rw [decide_eq_true h1]
  refine mvd ?_
  refine vk (vfa fR2) ?_
  refine ldp ?_ aS
  refine cl (xs := [.sl (L d)]) ?_ (Right_fn hd hld) Tryz.call77
  refine nt_ ?_
  by_cases h2 : ¬ digs (val d) = d
  · rw [decide_eq_false h2]
    refine pkd ?_
    refine mvd ?_
    refine gf ?_
    refine gf ?_
    refine gf ?_
    refine gf ?_
    refine pkd ?_
    refine mvd ?_
    refine gf ?_
    refine gf ?_
    refine gf ?_
    refine gf ?_
    refine pkd ?_
    refine rn ?_
    refine .gh (Gh.keep [1, 24] rfl) ?_
    refine cndt ?_
    refine .seq ?_
    refine .region ?_
    refine asd ?_
    refine rn ?_
    refine .ret ?_
    exact ⟨by rw [right_f (fun h => h2 h.2.1)]; rfl, rfl⟩
  rw [Decidable.not_not] at h2
  rw [decide_eq_true h2]
  refine pkd ?_
  refine mvd ?_
  refine vk (vfa fR1) ?_
  refine ldp ?_ aS
  refine ln ?_ (L_sz _) l32
  refine bi ?_
  by_cases h3 : 32 < n.length
  · rw [decide_eq_true (show (32 : Int) < ((L n).length : Nat) by rw [L_length]; omega)]
    refine pkd ?_
    refine mvd ?_
    refine gf ?_
    refine gf ?_
    refine gf ?_
    refine gf ?_
    refine pkd ?_
    refine rn ?_
    refine .gh (Gh.keep [1, 24] rfl) ?_
    refine cndt ?_
    refine .seq ?_
    refine .region ?_
    refine asd ?_
    refine rn ?_
    refine .ret ?_
    exact ⟨by rw [right_f (fun h => by have := h.2.2.1; omega)]; rfl, rfl⟩
  rw [decide_eq_false (show ¬ (32 : Int) < ((L n).length : Nat) by rw [L_length]; omega)]
  refine pkd ?_
  refine mvd ?_
  refine vk (vfa fR2) ?_
  refine ldp ?_ aS
  refine ln ?_ (L_sz _) l32
  refine bi ?_
  by_cases h4 : 32 < d.length
  · rw [decide_eq_true (show (32 : Int) < ((L d).length : Nat) by rw [L_length]; omega)]
    refine pkd ?_
    refine rn ?_
    refine .gh (Gh.keep [1, 24] rfl) ?_
    refine cndt ?_
    refine .seq ?_
    refine .region ?_
    refine asd ?_
    refine rn ?_
    refine .ret ?_
    exact ⟨by rw [right_f (fun h => by have := h.2.2.2.1; omega)]; rfl, rfl⟩
  rw [decide_eq_false (show ¬ (32 : Int) < ((L d).length : Nat) by rw [L_length]; omega)]
  have g1 := Gcd_fn (M := 32) (ls := [n, d]) (by simp [hn, hd]) (by simp; omega) (by simp) (by decide)
  rw [show gcdF [n, d] = Nat.gcd (val n) (val d) by show Nat.gcd (Nat.gcd 0 (val n)) (val d) = _; rw [Nat.gcd_zero_left]] at g1
  have lg : (digs (Nat.gcd (val n) (val d))).length ≤ 32 := digs_len (gcd_lt (Nat.lt_of_lt_of_le (val_lt hn) (Nat.pow_le_pow_right (by decide) (by omega))) (Nat.lt_of_lt_of_le (val_lt hd) (Nat.pow_le_pow_right (by decide) (by omega))))
  have q1 := Equal_fn (digs (Nat.gcd (val n) (val d))) [1] (by omega) (digs_ok _) (by simp [Ok])
  rw [decide_eq_decide.2 digs_one_iff] at q1
  refine pkd ?_
  refine rn ?_
  refine .gh (Gh.keep [1, 24] rfl) ?_
  refine cndf ?_
  refine .skip ?_
  show AW _ _ _ _ _ _
  refine .seq ?_
  refine .region ?_
  refine vk (vfa fR2) ?_
  refine ldp ?_ aS
  refine ln ?_ (L_sz _) l32
  refine bi ?_
  by_cases h5 : 0 < d.length
  · rw [decide_eq_true (show (0 : Int) < ((L d).length : Nat) by rw [L_length]; omega)]
    refine mvd ?_
    refine vk (vfa fR1) ?_
    refine ldp ?_ aS
    refine ln ?_ (L_sz _) l32
    refine bi ?_
    by_cases h6 : 0 < n.length
    · rw [decide_eq_true (show (0 : Int) < ((L n).length : Nat) by rw [L_length]; omega)]
      refine mvd ?_
      refine gf ?_
      refine gf ?_
      refine gf ?_
      refine pkd ?_
      refine pkd ?_
      refine mvd ?_
      refine vk (vfa fR1) ?_
      refine ldp ?_ aS
      refine vk (vfa fR2) ?_
      refine ldp ?_ aS
      refine bsl ?_ ?_ e2
      · simp [DV.flat, DV.cells, DV.leaf]
      refine fz (p := .t 45) ?_
      refine cl (xs := [.sl (LL [n, d])]) ?_ g1 Tryz.call78
      refine cl (xs := []) ?_ one_fn Tryz.call34
      refine fz (p := .t 47) ?_
      refine cl (xs := [.sl (L (digs (Nat.gcd (val n) (val d)))), .sl (L [1])]) ?_ q1 Tryz.call33
      refine pkd ?_
      refine asd ?_
      refine rn ?_
      refine .ret ?_
      exact ⟨by rw [show rightL b n d = decide (Nat.gcd (val n) (val d) = 1) from decide_eq_decide.2 ⟨fun h => h.2.2.2.2.2.2, fun h => ⟨h1, h2, by omega, by omega, ne_nil_pos.2 h5, fun h0 => by rw [h0] at h6; simp at h6, h⟩⟩]; rfl, rfl⟩
    rw [decide_eq_false (show ¬ (0 : Int) < ((L n).length : Nat) by rw [L_length]; omega)]
    refine mvd ?_
    refine vk (vfa fR0) ?_
    refine ldp ?_ aB
    refine nt_ ?_
    by_cases h7 : b = false
    · subst h7
      refine pkd ?_
      refine pkd ?_
      refine mvd ?_
      refine vk (vfa fR1) ?_
      refine ldp ?_ aS
      refine vk (vfa fR2) ?_
      refine ldp ?_ aS
      refine bsl ?_ ?_ e2
      · simp [DV.flat, DV.cells, DV.leaf]
      refine fz (p := .t 45) ?_
      refine cl (xs := [.sl (LL [n, d])]) ?_ g1 Tryz.call78
      refine cl (xs := []) ?_ one_fn Tryz.call34
      refine fz (p := .t 47) ?_
      refine cl (xs := [.sl (L (digs (Nat.gcd (val n) (val d)))), .sl (L [1])]) ?_ q1 Tryz.call33
      refine pkd ?_
      refine asd ?_
      refine rn ?_
      refine .ret ?_
      exact ⟨by rw [show rightL false n d = decide (Nat.gcd (val n) (val d) = 1) from decide_eq_decide.2 ⟨fun h => h.2.2.2.2.2.2, fun h => ⟨h1, h2, by omega, by omega, ne_nil_pos.2 h5, fun _ => rfl, h⟩⟩]; rfl, rfl⟩
    rw [Bool.not_eq_false] at h7; subst h7
    refine pkd ?_
    refine pkd ?_
    refine mvd ?_
    refine gf ?_
    refine gf ?_
    refine gf ?_
    refine gf ?_
    refine gf ?_
    refine gf ?_
    refine gf ?_
    refine gf ?_
    refine pkd ?_
    refine asd ?_
    refine rn ?_
    refine .ret ?_
    exact ⟨by rw [right_f (fun h => by have := h.2.2.2.2.2.1 (List.length_eq_zero_iff.1 (by omega)); cases this)]; rfl, rfl⟩
  rw [decide_eq_false (show ¬ (0 : Int) < ((L d).length : Nat) by rw [L_length]; omega)]
  refine mvd ?_
  refine gf ?_
  refine gf ?_
  refine gf ?_
  refine gf ?_
  refine gfu ?_
  refine gfn ?_
  refine gfn ?_
  refine gfn ?_
  refine gf ?_
  refine pkd ?_
  refine mvd ?_
  refine gf ?_
  refine gf ?_
  refine gf ?_
  refine gf ?_
  refine gf ?_
  refine gf ?_
  refine gf ?_
  refine gf ?_
  refine pkd ?_
  refine asd ?_
  refine rn ?_
  refine .ret ?_
  exact ⟨by rw [right_f (fun h => h5 (ne_nil_pos.1 h.2.2.2.2.1))]; rfl, rfl⟩

theorem cmp_one {g : Nat} : (cmpN g 1 = 0) ↔ g = 1 := by
  unfold cmpN
  by_cases h : g < 1
  · rw [if_pos h]; omega
  · rw [if_neg h]; split <;> omega

theorem refRR_fn {b : Bool} {n d : List Nat} (hn : Ok n) (hd : Ok d) (hln : n.length ≤ 35184372087808) (hld : d.length ≤ 35184372087808) : Fn Tryz.prog 20 [Rv b n d] (.d (.b (rightL b n d))) := by
  refine Fn.of (rs := [.tmp 2]) (nt := 50) Tryz.func20 rfl rfl rfl (by simp) rfl ?_
  refine .seq ?_
  refine .region ?_
  refine vk vbx ?_
  refine asd ?_
  refine rn ?_
  refine .seq ?_
  refine .seq ?_
  refine .region ?_
  refine vk (vfa fR1) ?_
  refine ldp ?_ aS
  refine cl (xs := [.sl (L n)]) ?_ (refRight_fn hn hln) Tryz.call68
  refine nt_ ?_
  by_cases h1 : ¬ digs (val n) = n
  · rw [decide_eq_false h1]
    refine mvd ?_
    refine gf ?_
    refine gf ?_
    refine gf ?_
    refine gf ?_
    refine pkd ?_
    refine mvd ?_
    refine gf ?_
    refine gf ?_
    refine gf ?_
    refine gf ?_
    refine pkd ?_
    refine mvd ?_
    refine gf ?_
    refine gf ?_
    refine gf ?_
    refine gf ?_
    refine pkd ?_
    refine mvd ?_
    refine gf ?_
    refine gf ?_
    refine gf ?_
    refine gf ?_
    refine pkd ?_
    refine mvd ?_
    refine gf ?_
    refine gf ?_
    refine gf ?_
    refine gf ?_
    refine gfu ?_
    refine gfn ?_
    refine gfn ?_
    refine gf ?_
    refine pkd ?_
    refine rn ?_
    refine .gh (Gh.keep [1, 40] rfl) ?_
    refine cndt ?_
    refine .seq ?_
    refine .region ?_
    refine asd ?_
    refine rn ?_
    refine .ret ?_
    exact ⟨by rw [right_f (fun h => h1 h.1)]; rfl, rfl⟩
  rw [Decidable.not_not] at h1
  rw [decide_eq_true h1]
  refine mvd ?_
  refine vk (vfa fR2) ?_
  refine ldp ?_ aS
  refine cl (xs := [.sl (L d)]) ?_ (refRight_fn hd hld) Tryz.call68
  refine nt_ ?_
  by_cases h2 : ¬ digs (val d) = d
  · rw [decide_eq_false h2]
    refine pkd ?_
    refine mvd ?_
    refine gf ?_
    refine gf ?_
    refine gf ?_
    refine gf ?_
    refine pkd ?_
    refine mvd ?_
    refine gf ?_
    refine gf ?_
    refine gf ?_
    refine gf ?_
    refine pkd ?_
    refine mvd ?_
    refine gf ?_
    refine gf ?_
    refine gf ?_
    refine gf ?_
    refine pkd ?_
    refine mvd ?_
    refine gf ?_
    refine gf ?_
    refine gf ?_
    refine gf ?_
    refine gfu ?_
    refine gfn ?_
    refine gfn ?_
    refine gf ?_
    refine pkd ?_
    refine rn ?_
    refine .gh (Gh.keep [1, 40] rfl) ?_
    refine cndt ?_
    refine .seq ?_
    refine .region ?_
    refine asd ?_
    refine rn ?_
    refine .ret ?_
    exact ⟨by rw [right_f (fun h => h2 h.2.1)]; rfl, rfl⟩
  rw [Decidable.not_not] at h2
  rw [decide_eq_true h2]
  refine pkd ?_
  refine mvd ?_
  refine vk (vfa fR2) ?_
  refine ldp ?_ aS
  refine ln ?_ (L_sz _) l32
  refine bi ?_
  by_cases h5 : d.length = 0
  · rw [decide_eq_true (show (((L d).length : Nat) : Int) = 0 by rw [L_length]; omega)]
    refine pkd ?_
    refine mvd ?_
    refine gf ?_
    refine gf ?_
    refine gf ?_
    refine gf ?_
    refine pkd ?_
    refine mvd ?_
    refine gf ?_
    refine gf ?_
    refine gf ?_
    refine gf ?_
    refine pkd ?_
    refine mvd ?_
    refine gf ?_
    refine gf ?_
    refine gf ?_
    refine gf ?_
    refine gfu ?_
    refine gfn ?_
    refine gfn ?_
    refine gf ?_
    refine pkd ?_
    refine rn ?_
    refine .gh (Gh.keep [1, 40] rfl) ?_
    refine cndt ?_
    refine .seq ?_
    refine .region ?_
    refine asd ?_
    refine rn ?_
    refine .ret ?_
    exact ⟨by rw [right_f (fun h => by have := ne_nil_pos.1 h.2.2.2.2.1; omega)]; rfl, rfl⟩
  rw [decide_eq_false (show ¬ (((L d).length : Nat) : Int) = 0 by rw [L_length]; omega)]
  refine pkd ?_
  refine mvd ?_
  refine vk (vfa fR1) ?_
  refine ldp ?_ aS
  refine ln ?_ (L_sz _) l32
  refine bi ?_
  by_cases h3 : 32 < n.length
  · rw [decide_eq_true (show (32 : Int) < ((L n).length : Nat) by rw [L_length]; omega)]
    refine pkd ?_
    refine mvd ?_
    refine gf ?_
    refine gf ?_
    refine gf ?_
    refine gf ?_
    refine pkd ?_
    refine mvd ?_
    refine gf ?_
    refine gf ?_
    refine gf ?_
    refine gf ?_
    refine gfu ?_
    refine gfn ?_
    refine gfn ?_
    refine gf ?_
    refine pkd ?_
    refine rn ?_
    refine .gh (Gh.keep [1, 40] rfl) ?_
    refine cndt ?_
    refine .seq ?_
    refine .region ?_
    refine asd ?_
    refine rn ?_
    refine .ret ?_
    exact ⟨by rw [right_f (fun h => by have := h.2.2.1; omega)]; rfl, rfl⟩
  rw [decide_eq_false (show ¬ (32 : Int) < ((L n).length : Nat) by rw [L_length]; omega)]
  refine pkd ?_
  refine mvd ?_
  refine vk (vfa fR2) ?_
  refine ldp ?_ aS
  refine ln ?_ (L_sz _) l32
  refine bi ?_
  by_cases h4 : 32 < d.length
  · rw [decide_eq_true (show (32 : Int) < ((L d).length : Nat) by rw [L_length]; omega)]
    refine pkd ?_
    refine mvd ?_
    refine gf ?_
    refine gf ?_
    refine gf ?_
    refine gf ?_
    refine gfu ?_
    refine gfn ?_
    refine gfn ?_
    refine gf ?_
    refine pkd ?_
    refine rn ?_
    refine .gh (Gh.keep [1, 40] rfl) ?_
    refine cndt ?_
    refine .seq ?_
    refine .region ?_
    refine asd ?_
    refine rn ?_
    refine .ret ?_
    exact ⟨by rw [right_f (fun h => by have := h.2.2.2.1; omega)]; rfl, rfl⟩
  rw [decide_eq_false (show ¬ (32 : Int) < ((L d).length : Nat) by rw [L_length]; omega)]
  have g1 := refGcd_fn (M := 32) (ls := [n, d]) (by simp [hn, hd]) (by simp; omega) (by simp) (by decide)
  rw [show gcdF [n, d] = Nat.gcd (val n) (val d) by show Nat.gcd (Nat.gcd 0 (val n)) (val d) = _; rw [Nat.gcd_zero_left]] at g1
  have lg : (digs (Nat.gcd (val n) (val d))).length ≤ 32 := digs_len (gcd_lt (Nat.lt_of_lt_of_le (val_lt hn) (Nat.pow_le_pow_right (by decide) (by omega))) (Nat.lt_of_lt_of_le (val_lt hd) (Nat.pow_le_pow_right (by decide) (by omega))))
  have q1 := refCompare_fn (a := digs (Nat.gcd (val n) (val d))) (b := [1]) (digs_ok _) (by simp [Ok]) (by omega) (by simp)
  rw [val_digs, show val [1] = 1 from rfl] at q1
  refine pkd ?_
  refine mvd ?_
  refine vk (vfa fR1) ?_
  refine ldp ?_ aS
  refine ln ?_ (L_sz _) l32
  refine bi ?_
  by_cases h6 : n.length = 0
  · rw [decide_eq_true (show (((L n).length : Nat) : Int) = 0 by rw [L_length]; omega)]
    refine mvd ?_
    refine vk (vfa fR0) ?_
    refine ldp ?_ aB
    by_cases h7 : b = true
    · subst h7
      refine pkd ?_
      refine pkd ?_
      refine rn ?_
      refine .gh (Gh.keep [1, 40] rfl) ?_
      refine cndt ?_
      refine .seq ?_
      refine .region ?_
      refine asd ?_
      refine rn ?_
      refine .ret ?_
      exact ⟨by rw [right_f (fun h => by have := h.2.2.2.2.2.1 (List.length_eq_zero_iff.1 (by omega)); cases this)]; rfl, rfl⟩
    rw [Bool.not_eq_true] at h7; subst h7
    refine pkd ?_
    refine pkd ?_
    refine rn ?_
    refine .gh (Gh.keep [1, 40] rfl) ?_
    refine cndf ?_
    refine .skip ?_
    show AW _ _ _ _ _ _
    refine .seq ?_
    refine .region ?_
    refine vk (vfa fR1) ?_
    refine ldp ?_ aS
    refine vk (vfa fR2) ?_
    refine ldp ?_ aS
    refine bsl ?_ ?_ e2
    · simp [DV.flat, DV.cells, DV.leaf]
    refine fz (p := .t 45) ?_
    refine cl (xs := [.sl (LL [n, d])]) ?_ g1 Tryz.call69
    refine cl (xs := []) ?_ refOne_fn Tryz.call41
    refine fz (p := .t 47) ?_
    refine cl (xs := [.sl (L (digs (Nat.gcd (val n) (val d)))), .sl (L [1])]) ?_ q1 Tryz.call55
    refine bi ?_
    refine asd ?_
    refine rn ?_
    refine .ret ?_
    exact ⟨by rw [show rightL false n d = decide (cmpN (Nat.gcd (val n) (val d)) 1 = 0) from decide_eq_decide.2 ⟨fun h => cmp_one.2 h.2.2.2.2.2.2, fun h => ⟨h1, h2, by omega, by omega, ne_nil_pos.2 (by omega), fun _ => rfl, cmp_one.1 h⟩⟩]; rfl, rfl⟩
  rw [decide_eq_false (show ¬ (((L n).length : Nat) : Int) = 0 by rw [L_length]; omega)]
  refine mvd ?_
  refine gf ?_
  refine gf ?_
  refine pkd ?_
  refine pkd ?_
  refine rn ?_
  refine .gh (Gh.keep [1, 40] rfl) ?_
  refine cndf ?_
  refine .skip ?_
  show AW _ _ _ _ _ _
  refine .seq ?_
  refine .region ?_
  refine vk (vfa fR1) ?_
  refine ldp ?_ aS
  refine vk (vfa fR2) ?_
  refine ldp ?_ aS
  refine bsl ?_ ?_ e2
  · simp [DV.flat, DV.cells, DV.leaf]
  refine fz (p := .t 45) ?_
  refine cl (xs := [.sl (LL [n, d])]) ?_ g1 Tryz.call69
  refine cl (xs := []) ?_ refOne_fn Tryz.call41
  refine fz (p := .t 47) ?_
  refine cl (xs := [.sl (L (digs (Nat.gcd (val n) (val d)))), .sl (L [1])]) ?_ q1 Tryz.call55
  refine bi ?_
  refine asd ?_
  refine rn ?_
  refine .ret ?_
  exact ⟨by rw [show rightL b n d = decide (cmpN (Nat.gcd (val n) (val d)) 1 = 0) from decide_eq_decide.2 ⟨fun h => cmp_one.2 h.2.2.2.2.2.2, fun h => ⟨h1, h2, by omega, by omega, ne_nil_pos.2 (by omega), fun h0 => by rw [h0] at h6; simp at h6, cmp_one.1 h⟩⟩]; rfl, rfl⟩

/-- Numbers, as they come. -/
abbrev RT := Bool × List Nat × List Nat
def RVs (rs : List RT) : List DV := rs.map fun r => Rv r.1 r.2.1 r.2.2
def okR (r : RT) : Prop := Ok r.2.1 ∧ Ok r.2.2 ∧ r.2.1.length ≤ 35184372087808 ∧ r.2.2.length ≤ 35184372087808
def rightR (r : RT) : Bool := rightL r.1 r.2.1 r.2.2
def idxZ : Option Nat → Int
  | some i => i
  | none => -1
theorem RVs_length (rs : List RT) : (RVs rs).length = rs.length := by simp [RVs]
theorem RVs_sz (rs : List RT) : ∃ sz, ∀ x ∈ RVs rs, x.cells.length = sz := ⟨3, fun x hx => by
  simp only [RVs, List.mem_map] at hx
  obtain ⟨n, _, rfl⟩ := hx; rfl⟩
theorem RVs_at {rs : List RT} {i : Nat} {r : RT} (h : rs[i]? = some r) : (RVs rs)[i]? = some (Rv r.1 r.2.1 r.2.2) := by simp [RVs, h]

theorem notRight_fn {b : Bool} {n d : List Nat} (hn : Ok n) (hd : Ok d) (hln : n.length ≤ 35184372087808) (hld : d.length ≤ 35184372087808) : Fn Tryz.prog 59 [Rv b n d] (.d (.b (!rightL b n d))) := by
  refine Fn.of (rs := [.tmp 2]) (nt := 6) Tryz.func59 rfl rfl rfl (by simp) rfl ?_
  refine .seq ?_
  refine .region ?_
  refine vk vbx ?_
  refine asd ?_
  refine rn ?_
  refine .seq ?_
  refine .region ?_
  refine vk (vlda aR sR) ?_
  refine cl (xs := [Rv b n d]) ?_ (RRight_fn hn hd hln hld) Tryz.call29
  refine nt_ ?_
  refine asd ?_
  refine rn ?_
  refine .ret ?_
  exact ⟨rfl, rfl⟩

theorem IndexR_fn {rs : List RT} (h : ∀ r ∈ rs, okR r) (hl : rs.length ≤ 1048576) : Fn Tryz.prog 98 [.sl (RVs rs), .fn 59 [] []] (.d (.i .i64 (idxZ (rs.findIdx? (fun r => !rightR r))))) := by
  refine Fn.of (rs := [.tmp 4]) (nt := 19) Tryz.func98 rfl rfl rfl (by simp) rfl ?_
  refine .seq ?_
  refine .region ?_
  refine asd ?_
  refine rn ?_
  refine .seq ?_
  refine .seq ?_
  refine .region ?_
  refine mvd ?_
  refine ln ?_ (RVs_sz _) lR
  refine mvd ?_
  refine rn ?_
  refine .block ?_
  refine .loop (.gh (Gh.keep [0, 1, 6, 7, 8] rfl) ?_)
  refine AL.ind (σ := Nat) (m := fun i => rs.length - i) (e := fun i => [(0, .d (.sl (RVs rs))), (1, .d (.fn 59 [] [])), (6, .d (.sl (RVs rs))), (7, .d (.i .i64 ((RVs rs).length : Nat))), (8, .d (.i .i64 (i : Int)))]) (h := fun _ => [])
    (I := fun i => i ≤ rs.length ∧ ∀ j r, j < i → rs[j]? = some r → rightR r = true) ?_ 0 ⟨Nat.zero_le _, fun j r hj => by omega⟩
  rintro i ⟨h1, h2⟩ ih
  refine .seq ?_
  refine .region ?_
  refine bi ?_
  refine rn ?_
  refine .seq ?_
  by_cases hi : i < rs.length
  · rw [decide_eq_true (show (i : Int) < ((RVs rs).length : Nat) by rw [RVs_length]; omega)]
    have hx : rs[i]? = some rs[i] := List.getElem?_eq_getElem hi
    have hdx : rs.take (i + 1) = rs.take i ++ [rs[i]] := List.take_succ_eq_append_getElem hi
    generalize rs[i] = r at hx hdx
    obtain ⟨o1, o2, o3, o4⟩ := h r (List.mem_of_getElem? hx)
    refine cndt ?_
    refine .skip ?_
    show AW _ _ _ _ _ _
    refine .seq ?_
    refine .block ?_
    refine .seq ?_
    refine .region ?_
    refine mvd ?_
    refine asd ?_
    refine rn ?_
    refine .seq ?_
    refine .region ?_
    refine mvd ?_
    refine mvd ?_
    refine mvd ?_
    refine ix i ?_ rfl (RVs_at hx) rfl slR
    refine vk (vlda aR sR) ?_
    refine cl (xs := [Rv r.1 r.2.1 r.2.2]) ?_ (notRight_fn o1 o2 o3 o4) Tryz.call59
    refine rn ?_
    by_cases hr : rightL r.1 r.2.1 r.2.2 = false
    · rw [hr]
      refine cndt ?_
      refine .seq ?_
      refine .region ?_
      refine mvd ?_
      refine asd ?_
      refine rn ?_
      refine .ret ?_
      have hf : rs.findIdx? (fun r => !rightR r) = some i := by
        rw [List.findIdx?_eq_some_iff_getElem]
        obtain ⟨hi', he⟩ := List.getElem?_eq_some_iff.1 hx
        refine ⟨hi', by rw [he]; show (!rightL r.1 r.2.1 r.2.2) = true; rw [hr]; rfl, fun j hj => ?_⟩
        have := h2 j rs[j] hj (List.getElem?_eq_getElem (by omega))
        simp [this]
      exact ⟨by rw [hf]; rfl, rfl⟩
    rw [Bool.not_eq_false] at hr
    rw [hr]
    refine cndf ?_
    refine .skip ?_
    show AW _ _ _ _ _ _
    refine .region ?_
    refine ad ((i + 1 : Nat) : Int) ?_ ?_
    · omega
    refine mvd ?_
    refine .nil ?_
    refine AL.gh (Gh.keep [0, 1, 6, 7, 8] rfl) ?_
    exact ih (i + 1) ⟨by omega, fun j r' hj hr' => by
      by_cases hji : j = i
      · subst hji; rw [hx] at hr'; cases hr'; exact hr
      · exact h2 j r' (by omega) hr'⟩ (by omega)
  rw [decide_eq_false (show ¬ (i : Int) < ((RVs rs).length : Nat) by rw [RVs_length]; omega)]
  refine cndf ?_
  refine .exit ?_
  show AW _ _ _ _ _ _
  refine .seq ?_
  refine .region ?_
  refine asd ?_
  refine rn ?_
  refine .ret ?_
  have hf : rs.findIdx? (fun r => !rightR r) = none := by
    rw [List.findIdx?_eq_none_iff]
    intro r hr
    obtain ⟨j, hj⟩ := List.getElem?_of_mem hr
    have hjl := (List.getElem?_eq_some_iff.1 hj).1
    rw [h2 j r (by omega) hj]; rfl
  exact ⟨by rw [hf]; rfl, rfl⟩
end Go.FL
/-
  rat, glyphref02: right, Make; Same.
-/
namespace Go.FL
open Go Go.Proofs


theorem ContainsR_fn {rs : List RT} (h : ∀ r ∈ rs, okR r) (hl : rs.length ≤ 1048576) : Fn Tryz.prog 58 [.sl (RVs rs), .fn 59 [] []] (.d (.b (!rs.all rightR))) := by
  have f := IndexR_fn h hl
  have e : decide ((0 : Int) ≤ idxZ (rs.findIdx? (fun r => !rightR r))) = !rs.all rightR := by
    cases hf : rs.findIdx? (fun r => !rightR r) with
    | none =>
      rw [List.findIdx?_eq_none_iff] at hf
      have : rs.all rightR = true := List.all_eq_true.2 fun r hr => by have := hf r hr; simpa using this
      rw [this]; rfl
    | some i =>
      rw [List.findIdx?_eq_some_iff_getElem] at hf
      obtain ⟨hi, he, _⟩ := hf
      have : rs.all rightR = false := by
        rw [Bool.eq_false_iff]
        intro ha
        have := List.all_eq_true.1 ha _ (List.getElem_mem hi)
        rw [this] at he; cases he
      rw [this]
      exact decide_eq_true (by show (0 : Int) ≤ (i : Int); omega)
  generalize idxZ (rs.findIdx? (fun r => !rightR r)) = z at *
  refine Fn.of (rs := [.tmp 4]) (nt := 9) Tryz.func58 rfl rfl rfl (by simp) rfl ?_
  refine .seq ?_
  refine .region ?_
  refine asd ?_
  refine rn ?_
  refine .seq ?_
  refine .region ?_
  refine mvd ?_
  refine mvd ?_
  refine cl (xs := [.sl (RVs rs), .fn 59 [] []]) ?_ f Tryz.call98
  refine bi ?_
  rw [e]
  refine asd ?_
  refine rn ?_
  refine .ret ?_
  exact ⟨rfl, rfl⟩

theorem right_fn {rs : List RT} (h : ∀ r ∈ rs, okR r) (hl : rs.length ≤ 1048576) : Fn Tryz.prog 14 [.sl (RVs rs)] (.d (.b (rs.all rightR))) := by
  have f := ContainsR_fn h hl
  generalize rs.all rightR = b at *
  refine Fn.of (rs := [.tmp 2]) (nt := 6) Tryz.func14 rfl rfl rfl (by simp) rfl ?_
  refine .seq ?_
  refine .region ?_
  refine asd ?_
  refine rn ?_
  refine .seq ?_
  refine .region ?_
  refine mvd ?_
  refine cl (xs := [.sl (RVs rs), .fn 59 [] []]) ?_ f Tryz.call58
  refine nt_ ?_
  rw [Bool.not_not]
  refine asd ?_
  refine rn ?_
  refine .ret ?_
  exact ⟨rfl, rfl⟩

theorem lowN_form (b : Bool) (n d : Nat) : ∃ c n' d' e, lowN b n d = [Rv c n' d', .i .i64 e] := by
  unfold lowN; split
  · exact ⟨_, _, _, _, rfl⟩
  · split <;> exact ⟨_, _, _, _, rfl⟩
/-- What Make gives. -/
def makeN (b : Bool) (n d : Nat) : List DV := if d = 0 then [Rv false [] [], .i .i64 22] else lowN b n d
theorem len_zero {n : Nat} : ((((L (digs n)).length : Nat) : Int) = 0) ↔ n = 0 := by
  rw [L_length]
  constructor
  · intro h
    exact digs_nil_iff.1 (List.length_eq_zero_iff.1 (by omega))
  · rintro rfl; rw [digs_zero]; rfl

theorem Make_fn {M : Nat} {b : Bool} {n d : List Nat} (hn : Ok n) (hd : Ok d) (hln : n.length ≤ M) (hld : d.length ≤ M) (hM : M ≤ 100000) : Fn Tryz.prog 75 [.b b, .sl (L n), .sl (L d)] (.tup ((makeN b (val n) (val d)).map .d)) := by
  have f := lowest_fn (b := b) hn hd hln hld hM
  obtain ⟨c, n', d', e, hz3⟩ := lowN_form b (val n) (val d)
  rw [hz3] at f
  refine Fn.ofC (rs := [.cell 6 24, .tmp 7]) (nt := 21) Tryz.func75 rfl rfl rfl (by simp) (noBp_d _) ?_
  refine .seq ?_
  refine .region ?_
  refine vk (van (zero_of iR) rR) ?_
  refine asd ?_
  refine rn ?_
  refine .seq ?_
  refine .seq ?_
  refine .region ?_
  refine mvd ?_
  refine cl (xs := [.sl (L d)]) ?_ (Trim_fn hd (by omega)) Tryz.call83
  refine ln ?_ (L_sz _) l32
  refine bi ?_
  refine rn ?_
  refine .gh (Gh.keep [0, 1, 2, 6, 7, 11] rfl) ?_
  by_cases hd0 : val d = 0
  · rw [decide_eq_true (len_zero.2 hd0), makeN, if_pos hd0]
    refine cndt ?_
    refine .seq ?_
    refine .region ?_
    refine vk (vbd pR iR rR) ?_
    refine stn ?_ sR (by decide)
    refine asd ?_
    refine rn ?_
    refine .ret ?_
    exact ⟨_, _, ⟨.inr rfl, aR, sR, (by decide : (0 : Nat) < 3)⟩, rfl, rfl⟩
  rw [decide_eq_false (fun h => hd0 (len_zero.1 h)), makeN, if_neg hd0]
  refine cndf ?_
  refine .skip ?_
  show AW _ _ _ _ _ _
  refine .seq ?_
  refine .region ?_
  refine mvd ?_
  refine mvd ?_
  refine vk (vbd pZ iZ rZ) ?_
  refine mvd ?_
  refine vk (vbd pN iN rN) ?_
  refine vk (av := .d (.tup ([Rv c n' d', .i .i64 e]))) (VOK.tupd (vcl (xs := [Nv b n d]) f Tryz.call63)) ?_
  refine vk vex ?_
  refine vk vex ?_
  refine stn ?_ sR (by decide)
  refine asd ?_
  refine rn ?_
  refine .ret ?_
  exact ⟨_, _, ⟨.inr rfl, aR, sR, (by decide : (0 : Nat) < 3)⟩, rfl, by rw [hz3]; rfl⟩

theorem refMake_fn {M : Nat} {b : Bool} {n d : List Nat} (hn : Ok n) (hd : Ok d) (hln : n.length ≤ M) (hld : d.length ≤ M) (hM : M ≤ 100000) : Fn Tryz.prog 51 [.b b, .sl (L n), .sl (L d)] (.tup ((makeN b (val n) (val d)).map .d)) := by
  have l1 : (digs (val n)).length ≤ M := Nat.le_trans (digs_len_le hn) hln
  have l2 : (digs (val d)).length ≤ M := Nat.le_trans (digs_len_le hd) hld
  have g1 := refGcd_fn (M := M) (ls := [digs (val n), digs (val d)]) (by simp [digs_ok]) (by simp [l1, l2]) (by simp) hM
  rw [show gcdF [digs (val n), digs (val d)] = Nat.gcd (val n) (val d) by show Nat.gcd (Nat.gcd 0 (val (digs (val n)))) (val (digs (val d))) = _; rw [Nat.gcd_zero_left, val_digs, val_digs]] at g1
  have lg : (digs (Nat.gcd (val n) (val d))).length ≤ M := digs_len (gcd_lt (Nat.lt_of_lt_of_le (val_lt hn) (Nat.pow_le_pow_right (by decide) hln)) (Nat.lt_of_lt_of_le (val_lt hd) (Nat.pow_le_pow_right (by decide) hld)))
  have hg0 : val d ≠ 0 → Nat.gcd (val n) (val d) ≠ 0 := fun h => Nat.ne_of_gt (Nat.gcd_pos_of_pos_right _ (Nat.pos_of_ne_zero h))
  have d1 := refDivMod_fn (a := digs (val n)) (b := digs (Nat.gcd (val n) (val d))) (digs_ok _) (digs_ok _) (by omega) (by omega)
  have d2 := refDivMod_fn (a := digs (val d)) (b := digs (Nat.gcd (val n) (val d))) (digs_ok _) (digs_ok _) (by omega) (by omega)
  rw [val_digs, val_digs] at d1 d2
  have hlow : val d ≠ 0 → lowN b (val n) (val d) = if 32 < (digs (val n / Nat.gcd (val n) (val d))).length ∨ 32 < (digs (val d / Nat.gcd (val n) (val d))).length then [Rv false [] [], .i .i64 8]
      else [Rv (b && decide (val n / Nat.gcd (val n) (val d) ≠ 0)) (digs (val n / Nat.gcd (val n) (val d))) (digs (val d / Nat.gcd (val n) (val d))), .i .i64 0] := fun h => by rw [lowN, if_neg (hg0 h)]
  generalize decide (Nat.gcd (val n) (val d) ≠ 0) = ok1 at *
  generalize remN (val n) (Nat.gcd (val n) (val d)) = r1 at *
  generalize remN (val d) (Nat.gcd (val n) (val d)) = r2 at *
  generalize val n / Nat.gcd (val n) (val d) = x at *
  generalize val d / Nat.gcd (val n) (val d) = y at *
  generalize Nat.gcd (val n) (val d) = g at *
  refine Fn.ofC (rs := [.cell 6 24, .tmp 7]) (nt := 55) Tryz.func51 rfl rfl rfl (by simp) (noBp_d _) ?_
  refine .seq ?_
  refine .region ?_
  refine vk (van (zero_of iR) rR) ?_
  refine asd ?_
  refine rn ?_
  refine .seq ?_
  refine .region ?_
  refine mvd ?_
  refine cl (xs := [.sl (L n)]) ?_ (refTrim_fn hn (by omega)) Tryz.call70
  refine mvd ?_
  refine cl (xs := [.sl (L d)]) ?_ (refTrim_fn hd (by omega)) Tryz.call70
  refine aso ?_
  refine RL.gh (Gh.frz (p := .t 8) rfl (fun _ _ h => by cases h)) ?_
  refine aso ?_
  refine RL.gh (Gh.frz (p := .t 9) rfl (fun _ _ h => by cases h)) ?_
  refine rn ?_
  refine .gh (Gh.keep [0, 6, 7, 8, 9] rfl) ?_
  refine .seq ?_
  refine .seq ?_
  refine .region ?_
  refine mvd ?_
  refine ln ?_ (L_sz _) l32
  refine bi ?_
  refine rn ?_
  refine .gh (Gh.keep [0, 6, 7, 8, 9, 17] rfl) ?_
  by_cases hd0 : val d = 0
  · rw [decide_eq_true (len_zero.2 hd0), makeN, if_pos hd0]
    refine cndt ?_
    refine .seq ?_
    refine .region ?_
    refine vk (vbd pR iR rR) ?_
    refine stn ?_ sR (by decide)
    refine asd ?_
    refine rn ?_
    refine .ret ?_
    exact ⟨_, _, ⟨.inr rfl, aR, sR, (by decide : (0 : Nat) < 3)⟩, rfl, rfl⟩
  rw [decide_eq_false (fun h => hd0 (len_zero.1 h)), makeN, if_neg hd0]
  rw [hlow hd0]
  refine cndf ?_
  refine .skip ?_
  show AW _ _ _ _ _ _
  refine .seq ?_
  refine .region ?_
  refine mvd ?_
  refine mvd ?_
  refine bsl ?_ ?_ e2
  · simp [DV.flat, DV.cells, DV.leaf]
  refine fz (p := .t 21) ?_
  refine cl (xs := [.sl (LL [digs (val n), digs (val d)])]) ?_ g1 Tryz.call69
  refine asd ?_
  refine rn ?_
  refine .gh (Gh.keep [0, 6, 7, 8, 9, 10] rfl) ?_
  refine .seq ?_
  refine .region ?_
  refine mvd ?_
  refine mvd ?_
  refine cl (xs := [.sl (L (digs (val n))), .sl (L (digs g))]) ?_ d1 Tryz.call57
  refine mvt ?_
  refine ex ?_
  refine ex ?_
  refine ex ?_
  refine asd ?_
  refine rn ?_
  refine .gh (Gh.keep [0, 6, 7, 8, 9, 10] rfl) ?_
  refine .seq ?_
  refine .region ?_
  refine mvd ?_
  refine mvd ?_
  refine cl (xs := [.sl (L (digs (val d))), .sl (L (digs g))]) ?_ d2 Tryz.call57
  refine mvt ?_
  refine ex ?_
  refine ex ?_
  refine ex ?_
  refine asd ?_
  refine rn ?_
  refine .gh (Gh.keep [0, 6, 7, 8, 9] rfl) ?_
  refine .seq ?_
  refine .seq ?_
  refine .region ?_
  refine mvd ?_
  refine ln ?_ (L_sz _) l32
  refine bi ?_
  by_cases hx : 32 < (digs x).length
  · rw [decide_eq_true (show (32 : Int) < ((L (digs x)).length : Nat) by rw [L_length]; omega), if_pos (.inl hx)]
    refine mvd ?_
    refine gf ?_
    refine gf ?_
    refine gf ?_
    refine pkd ?_
    refine rn ?_
    refine cndt ?_
    refine .seq ?_
    refine .region ?_
    refine vk (vbd pR iR rR) ?_
    refine stn ?_ sR (by decide)
    refine asd ?_
    refine rn ?_
    refine .ret ?_
    exact ⟨_, _, ⟨.inr rfl, aR, sR, (by decide : (0 : Nat) < 3)⟩, rfl, rfl⟩
  rw [decide_eq_false (show ¬ (32 : Int) < ((L (digs x)).length : Nat) by rw [L_length]; omega)]
  refine mvd ?_
  refine mvd ?_
  refine ln ?_ (L_sz _) l32
  refine bi ?_
  by_cases hy : 32 < (digs y).length
  · rw [decide_eq_true (show (32 : Int) < ((L (digs y)).length : Nat) by rw [L_length]; omega), if_pos (.inr hy)]
    refine pkd ?_
    refine rn ?_
    refine cndt ?_
    refine .seq ?_
    refine .region ?_
    refine vk (vbd pR iR rR) ?_
    refine stn ?_ sR (by decide)
    refine asd ?_
    refine rn ?_
    refine .ret ?_
    exact ⟨_, _, ⟨.inr rfl, aR, sR, (by decide : (0 : Nat) < 3)⟩, rfl, rfl⟩
  rw [decide_eq_false (show ¬ (32 : Int) < ((L (digs y)).length : Nat) by rw [L_length]; omega), if_neg (by omega)]
  refine pkd ?_
  refine rn ?_
  refine cndf ?_
  refine .skip ?_
  show AW _ _ _ _ _ _
  refine .seq ?_
  refine .region ?_
  refine mvd ?_
  refine mvd ?_
  by_cases hb : b = true
  · subst hb
    refine mvd ?_
    refine ln ?_ (L_sz _) l32
    refine bi ?_
    rw [pos_digs]
    refine pkd ?_
    refine mvd ?_
    refine mvd ?_
    refine vk (vbd pR iR rR) ?_
    refine stn ?_ sR (by decide)
    refine asd ?_
    refine rn ?_
    refine .ret ?_
    exact ⟨_, _, ⟨.inr rfl, aR, sR, (by decide : (0 : Nat) < 3)⟩, rfl, rfl⟩
  rw [Bool.not_eq_true] at hb; subst hb
  refine gf ?_
  refine gf ?_
  refine gf ?_
  refine pkd ?_
  refine mvd ?_
  refine mvd ?_
  refine vk (vbd pR iR rR) ?_
  refine stn ?_ sR (by decide)
  refine asd ?_
  refine rn ?_
  refine .ret ?_
  exact ⟨_, _, ⟨.inr rfl, aR, sR, (by decide : (0 : Nat) < 3)⟩, rfl, rfl⟩

theorem refSame_fn (b c : Bool) (n d m e : List Nat) (hn : n.length ≤ 35184372087808) (hd : d.length ≤ 35184372087808) : Fn Tryz.prog 30 [Rv b n d, Rv c m e] (.d (.b (decide (b = c ∧ n = m ∧ d = e)))) := by
  have s1 := Same_fn n m hn
  have s2 := Same_fn d e hd
  refine Fn.of (rs := [.tmp 4]) (nt := 24) Tryz.func30 rfl rfl rfl (by simp) rfl ?_
  refine .seq ?_
  refine .region ?_
  refine vk vbx ?_
  refine vk vbx ?_
  refine asd ?_
  refine rn ?_
  refine .seq ?_
  refine .region ?_
  refine vk (vfa fR0) ?_
  refine ldp ?_ aB
  refine vk (vfa fR0) ?_
  refine ldp ?_ aB
  refine bbn ?_ (.inl rfl) bo
  rw [if_pos rfl]
  by_cases hb : b = c
  · subst hb
    rw [beq_self_eq_true]
    refine mvd ?_
    refine vk (vfa fR1) ?_
    refine ldp ?_ aS
    refine vk (vfa fR1) ?_
    refine ldp ?_ aS
    refine cl (xs := [.sl (L n), .sl (L m)]) ?_ s1 Tryz.call40
    by_cases hm : n = m
    · rw [decide_eq_true hm]
      refine pkd ?_
      refine mvd ?_
      refine vk (vfa fR2) ?_
      refine ldp ?_ aS
      refine vk (vfa fR2) ?_
      refine ldp ?_ aS
      refine cl (xs := [.sl (L d), .sl (L e)]) ?_ s2 Tryz.call40
      refine pkd ?_
      refine asd ?_
      refine rn ?_
      refine .ret ?_
      exact ⟨by rw [show decide (b = b ∧ n = m ∧ d = e) = decide (d = e) from decide_eq_decide.2 ⟨fun h => h.2.2, fun h => ⟨rfl, hm, h⟩⟩]; rfl, rfl⟩
    rw [decide_eq_false hm]
    refine pkd ?_
    refine mvd ?_
    refine gf ?_
    refine gf ?_
    refine gf ?_
    refine gf ?_
    refine gf ?_
    refine pkd ?_
    refine asd ?_
    refine rn ?_
    refine .ret ?_
    exact ⟨by rw [decide_eq_false (fun h => hm h.2.1)]; rfl, rfl⟩
  rw [beq_false_of_ne hb]
  refine mvd ?_
  refine gf ?_
  refine gf ?_
  refine gf ?_
  refine gf ?_
  refine gf ?_
  refine pkd ?_
  refine mvd ?_
  refine gf ?_
  refine gf ?_
  refine gf ?_
  refine gf ?_
  refine gf ?_
  refine pkd ?_
  refine asd ?_
  refine rn ?_
  refine .ret ?_
  exact ⟨by rw [decide_eq_false (fun h => hb h.1)]; rfl, rfl⟩
end Go.FL
/-
  rat: OfInt, plus, times, less; glyphref02: OfInt, Zero, signed, Two, Times.
-/
namespace Go.FL
open Go Go.Proofs

/-- A number's sign, numerator, denominator; or an error. -/
abbrev QE := Except Int (Bool × Nat × Nat)
def lowE (b : Bool) (n d : Nat) : QE :=
  if Nat.gcd n d = 0 then .error 22
  else if 32 < (digs (n / Nat.gcd n d)).length ∨ 32 < (digs (d / Nat.gcd n d)).length then .error 8
  else .ok (b && decide (n / Nat.gcd n d ≠ 0), n / Nat.gcd n d, d / Nat.gcd n d)
def makeE (b : Bool) (n d : Nat) : QE := if d = 0 then .error 22 else lowE b n d
abbrev Qv (q : Bool × Nat × Nat) : DV := Rv q.1 (digs q.2.1) (digs q.2.2)
def qb : QE → Bool
  | .error _ => false
  | .ok q => q.1
def qn : QE → List Nat
  | .error _ => []
  | .ok q => digs q.2.1
def qd : QE → List Nat
  | .error _ => []
  | .ok q => digs q.2.2
abbrev qv (x : QE) : DV := Rv (qb x) (qn x) (qd x)
def qe : QE → Int
  | .error e => e
  | .ok _ => 0
/-- What functions give that may fail. -/
abbrev resD (x : QE) : List DV := [qv x, .i .i64 (qe x)]
theorem lowN_res (b : Bool) (n d : Nat) : lowN b n d = resD (lowE b n d) := by
  unfold lowN lowE; split
  · rfl
  · split <;> rfl
theorem makeN_res (b : Bool) (n d : Nat) : makeN b n d = resD (makeE b n d) := by
  unfold makeN makeE; split
  · rfl
  · exact lowN_res b n d
/-- The sum of two; the product. -/
def plusN (x y : Bool × Nat × Nat) : Bool × Nat × Nat :=
  if x.1 = y.1 then (x.1, x.2.1 * y.2.2 + y.2.1 * x.2.2, x.2.2 * y.2.2)
  else if y.2.1 * x.2.2 ≤ x.2.1 * y.2.2 then (x.1, x.2.1 * y.2.2 - y.2.1 * x.2.2, x.2.2 * y.2.2)
  else (y.1, y.2.1 * x.2.2 - x.2.1 * y.2.2, x.2.2 * y.2.2)
def timesN (x y : Bool × Nat × Nat) : Bool × Nat × Nat := (x.1 != y.1, x.2.1 * y.2.1, x.2.2 * y.2.2)
theorem u64_nn {z : Int} (h0 : 0 ≤ z) (h1 : z ≤ 9223372036854775807) : IntKind.u64.wrap z = ((z.natAbs : Nat) : Int) := by
  simp only [IntKind.wrap, IntKind.bits, IntKind.signed]; simp; omega
theorem u64_neg {z : Int} (h0 : z < 0) (h1 : -9223372036854775808 ≤ z) : IntKind.u64.wrap (0 - IntKind.u64.wrap z) = ((z.natAbs : Nat) : Int) := by
  simp only [IntKind.wrap, IntKind.bits, IntKind.signed]; simp; omega

theorem OfInt_fn {z : Int} (h1 : -9223372036854775808 ≤ z) (h2 : z ≤ 9223372036854775807) : Fn Tryz.prog 32 [.i .i64 z] (.d (Rv (decide (z < 0)) (digs z.natAbs) [1])) := by
  have f := Of_fn (n := z.natAbs) (by omega)
  refine Fn.ofC (rs := [.cell 2 24]) (nt := 16) Tryz.func32 rfl rfl rfl (by simp) rfl ?_
  refine .seq ?_
  refine .region ?_
  refine vk (van (zero_of iR) rR) ?_
  refine rn ?_
  refine .seq ?_
  refine .seq ?_
  refine .region ?_
  refine mvd ?_
  refine bi ?_
  refine rn ?_
  by_cases hz : z < 0
  · rw [decide_eq_true hz]
    refine cndt ?_
    refine .seq ?_
    refine .region ?_
    refine mvd ?_
    refine cv ?_ i64 u64
    refine ng ?_
    rw [u64_neg hz h1]
    refine cl (xs := [.i .u64 ((z.natAbs : Nat) : Int)]) ?_ f Tryz.call79
    refine cl (xs := []) ?_ one_fn Tryz.call34
    refine fz (p := .t 9) ?_
    refine vk (vbd pR iR rR) ?_
    refine stn ?_ sR (by decide)
    refine rn ?_
    refine .ret ?_
    exact ⟨_, ⟨.inr rfl, aR, sR, (by decide : (0 : Nat) < 3)⟩, rfl⟩
  rw [decide_eq_false hz]
  refine cndf ?_
  refine .skip ?_
  show AW _ _ _ _ _ _
  refine .seq ?_
  refine .region ?_
  refine mvd ?_
  refine cv ?_ i64 u64
  rw [u64_nn (by omega) h2]
  refine cl (xs := [.i .u64 ((z.natAbs : Nat) : Int)]) ?_ f Tryz.call79
  refine cl (xs := []) ?_ one_fn Tryz.call34
  refine fz (p := .t 14) ?_
  refine vk (vbd pR iR rR) ?_
  refine stn ?_ sR (by decide)
  refine rn ?_
  refine .ret ?_
  exact ⟨_, ⟨.inr rfl, aR, sR, (by decide : (0 : Nat) < 3)⟩, rfl⟩


theorem refZero_fn : Fn Tryz.prog 39 [] (.d (Rv false [] [1])) := by
  refine Fn.ofC (rs := [.cell 0 24]) (nt := 3) Tryz.func39 rfl rfl rfl (by simp) rfl ?_
  refine .seq ?_
  refine .region ?_
  refine vk (van (zero_of iR) rR) ?_
  refine rn ?_
  refine .seq ?_
  refine .region ?_
  refine cl (xs := []) ?_ refOne_fn Tryz.call41
  refine fz (p := .t 1) ?_
  refine vk (vbd pR iR rR) ?_
  refine stn ?_ sR (by decide)
  refine rn ?_
  refine .ret ?_
  exact ⟨_, ⟨.inr rfl, aR, sR, (by decide : (0 : Nat) < 3)⟩, rfl⟩

theorem zB : szOf Tryz.prog 4 = 1 := by kernel_rfl

theorem less_fn (b : Bool) (n d : List Nat) : Fn Tryz.prog 67 [Nv b n d] (.d (Nv (!b) n d)) := by
  refine Fn.ofC (rs := [.cell 2 63]) (nt := 8) Tryz.func67 rfl rfl rfl (by simp) rfl ?_
  refine .seq ?_
  refine .region ?_
  refine vk vbn ?_
  refine RL.gh2 (Gh.nbb (t := 1) rfl) ?_
  refine vk (van (zero_of iN) rN) ?_
  refine rn ?_
  refine .seq ?_
  refine .region ?_
  refine vk (vfab fN1) ?_
  refine ldb (cs := [.d (.sl (L n)), .d (.sl (L d)), .d (.b b)]) (c := .d (.b b)) rfl rfl ?_ aB
  refine nt_ ?_
  refine vk (vfab fN1) ?_
  refine stb (cs := [.d (.sl (L n)), .d (.sl (L d)), .d (.b b)]) (c := .d (.b b)) rfl rfl ?_ zB
  refine rn ?_
  refine .seq ?_
  refine .region ?_
  refine vk (vldba (cs := [.d (.sl (L n)), .d (.sl (L d)), .d (.b (!b))]) (ds := [.sl (L n), .sl (L d), .b (!b)]) rfl aN sN) ?_
  refine stn ?_ sN (by decide)
  refine rn ?_
  refine .ret ?_
  exact ⟨_, ⟨.inr rfl, aN, sN, (by decide : (0 : Nat) < 3)⟩, rfl⟩

theorem plus_fn {b c : Bool} {n d m e : List Nat} (hn : Ok n) (hd : Ok d) (hm : Ok m) (he : Ok e) (hln : n.length ≤ 4000) (hld : d.length ≤ 4000) (hlm : m.length ≤ 4000) (hle : e.length ≤ 4000) :
    Fn Tryz.prog 66 [Nv b n d, Nv c m e] (.d (Nv (plusN (b, val n, val d) (c, val m, val e)).1 (digs (plusN (b, val n, val d) (c, val m, val e)).2.1) (digs (plusN (b, val n, val d) (c, val m, val e)).2.2))) := by
  have c1 := cross_fn (n := n) (d := d) (m := m) (e := e) hn he hln hle
  have c2 := cross_fn (n := m) (d := e) (m := n) (e := d) hm hd hlm hld
  have p1 := prods_fn (M := 4000) (ls := [d, e]) (by simp [hd, he]) (by simp [hld, hle]) (by simp) (by decide)
  rw [show prodF [d, e] 1 = val d * val e by show 1 * val d * val e = _; rw [Nat.one_mul]] at p1
  have bnd : ∀ {x y : List Nat}, Ok x → Ok y → x.length ≤ 4000 → y.length ≤ 4000 → (digs (val x * val y)).length ≤ 8000 := fun hx hy lx ly => by
    refine Nat.le_trans (digs_len (k := _ + _) (by rw [Nat.pow_add]; exact Nat.mul_lt_mul'' (val_lt hx) (val_lt hy))) (by omega)
  have b1 := bnd hn he hln hle
  have b2 := bnd hm hd hlm hld
  simp only [plusN]
  generalize val n * val e = x at *
  generalize val m * val d = y at *
  generalize val d * val e = q at *
  have s1 := sum_fn (M := 8000) (ls := [digs x, digs y]) (by simp [digs_ok]) (by simp [b1, b2]) (by simp) (by decide)
  rw [show ([digs x, digs y].map val).sum = x + y by simp only [List.map_cons, List.map_nil, List.sum_cons, List.sum_nil, val_digs]; omega] at s1
  have m1 := Minus_fn (a := digs x) (b := digs y) (digs_ok _) (digs_ok _) (by omega) (by omega)
  have m2 := Minus_fn (a := digs y) (b := digs x) (digs_ok _) (digs_ok _) (by omega) (by omega)
  rw [val_digs, val_digs] at m1 m2
  refine Fn.ofC (rs := [.cell 4 63]) (nt := 69) Tryz.func66 rfl rfl rfl (by simp) rfl ?_
  refine .seq ?_
  refine .region ?_
  refine vk vbx ?_
  refine vk vbx ?_
  refine vk (van (zero_of iN) rN) ?_
  refine rn ?_
  refine .seq ?_
  refine .drawn 10 mixed (by kernel_rfl) ?_
  refine dv (vfa fN0) ?_
  refine dv (vlda aZ sZ) ?_
  refine dv (vfa fN0) ?_
  refine dv (vlda aZ sZ) ?_
  refine dv (v := .d (.sl (L (digs x)))) (vcl (xs := [Zv n d, Zv m e]) (r := .d (.sl (L (digs x)))) c1 Tryz.call99) ?_
  refine dv (vfa fN0) ?_
  refine dv (vlda aZ sZ) ?_
  refine dv (vfa fN0) ?_
  refine dv (vlda aZ sZ) ?_
  refine dv (v := .d (.sl (L (digs y)))) (vcl (xs := [Zv m e, Zv n d]) (r := .d (.sl (L (digs y)))) c2 Tryz.call99) ?_
  refine dz ?_
  refine asd ?_
  refine asd ?_
  refine rn ?_
  refine .gh (Gh.keep [2, 3, 4, 5, 6] rfl) ?_
  refine .seq ?_
  refine .region ?_
  refine vk (vfa fN0) ?_
  refine vk (vfa fZ1) ?_
  refine ldp ?_ aS
  refine vk (vfa fN0) ?_
  refine vk (vfa fZ1) ?_
  refine ldp ?_ aS
  refine bsl ?_ ?_ e2
  · simp [DV.flat, DV.cells, DV.leaf]
  refine fz (p := .t 28) ?_
  refine cl (xs := [.sl (LL [d, e])]) ?_ p1 Tryz.call47
  refine asd ?_
  refine rn ?_
  refine .gh (Gh.keep [2, 3, 4, 5, 6, 7] rfl) ?_
  refine .seq ?_
  refine .seq ?_
  refine .region ?_
  refine vk (vfa fN1) ?_
  refine ldp ?_ aB
  refine vk (vfa fN1) ?_
  refine ldp ?_ aB
  refine bbn ?_ (.inl rfl) bo
  rw [if_pos rfl]
  refine rn ?_
  by_cases hbc : b = c
  · subst hbc
    rw [beq_self_eq_true, if_pos rfl]
    refine cndt ?_
    refine .seq ?_
    refine .drawn 9 mixed (by kernel_rfl) ?_
    refine dv vmvd ?_
    refine dv vmvd ?_
    refine dv (v := .d (.sl (LL [digs x, digs y]))) (vbsl (LL_flat [digs x, digs y]) e2).deep ?_
    refine dv (v := .d (.sl (L (digs (x + y))))) (vcl (xs := [.sl (LL [digs x, digs y])]) (r := .d (.sl (L (digs (x + y))))) s1 Tryz.call46) ?_
    refine dv vmvd ?_
    refine dv (vbd pZ iZ rZ) ?_
    refine dv (vfa fN1) ?_
    refine dv (vldp aB) ?_
    refine dv (vbd pN iN rN) ?_
    refine dz ?_
    refine stn ?_ sN (by decide)
    refine rn ?_
    refine .ret ?_
    exact ⟨_, ⟨.inr rfl, aN, sN, (by decide : (0 : Nat) < 3)⟩, rfl⟩
  rw [beq_false_of_ne hbc, if_neg hbc]
  refine cndf ?_
  refine .skip ?_
  show AW _ _ _ _ _ _
  refine .seq ?_
  refine .seq ?_
  refine .region ?_
  refine mvd ?_
  refine mvd ?_
  refine cl (xs := [.sl (L (digs x)), .sl (L (digs y))]) ?_ m1 Tryz.call52
  refine mvt ?_
  refine ex ?_
  refine ex ?_
  refine asd ?_
  refine asd ?_
  refine rn ?_
  refine .gh (Gh.keep [2, 3, 4, 5, 6, 7, 8, 9] rfl) ?_
  refine .seq ?_
  refine .region ?_
  refine mvd ?_
  refine rn ?_
  by_cases hle2 : y ≤ x
  · rw [decide_eq_true hle2, if_pos hle2]
    refine cndt ?_
    refine .seq ?_
    refine .region ?_
    refine mvd ?_
    refine mvd ?_
    refine vk (vbd pZ iZ rZ) ?_
    refine vk (vfa fN1) ?_
    refine ldp ?_ aB
    refine vk (vbd pN iN rN) ?_
    refine stn ?_ sN (by decide)
    refine rn ?_
    refine .ret ?_
    exact ⟨_, ⟨.inr rfl, aN, sN, (by decide : (0 : Nat) < 3)⟩, by rw [minN_of hle2]; rfl⟩
  rw [decide_eq_false hle2, if_neg hle2]
  refine cndf ?_
  refine .skip ?_
  show AW _ _ _ _ _ _
  refine .seq ?_
  refine .region ?_
  refine mvd ?_
  refine mvd ?_
  refine cl (xs := [.sl (L (digs y)), .sl (L (digs x))]) ?_ m2 Tryz.call52
  refine mvt ?_
  refine ex ?_
  refine ex ?_
  refine asd ?_
  refine asd ?_
  refine rn ?_
  refine .gh (Gh.keep [2, 3, 4, 7, 10] rfl) ?_
  refine .seq ?_
  refine .region ?_
  refine mvd ?_
  refine mvd ?_
  refine vk (vbd pZ iZ rZ) ?_
  refine vk (vfa fN1) ?_
  refine ldp ?_ aB
  refine vk (vbd pN iN rN) ?_
  refine stn ?_ sN (by decide)
  refine rn ?_
  refine .ret ?_
  exact ⟨_, ⟨.inr rfl, aN, sN, (by decide : (0 : Nat) < 3)⟩, by rw [minN_of (by omega)]; rfl⟩

theorem times_fn {b c : Bool} {n d m e : List Nat} (hn : Ok n) (hd : Ok d) (hm : Ok m) (he : Ok e) (hln : n.length ≤ 4000) (hld : d.length ≤ 4000) (hlm : m.length ≤ 4000) (hle : e.length ≤ 4000) :
    Fn Tryz.prog 62 [Nv b n d, Nv c m e] (.d (Nv (b != c) (digs (val n * val m)) (digs (val d * val e)))) := by
  have p1 := prods_fn (M := 4000) (ls := [n, m]) (by simp [hn, hm]) (by simp [hln, hlm]) (by simp) (by decide)
  rw [show prodF [n, m] 1 = val n * val m by show 1 * val n * val m = _; rw [Nat.one_mul]] at p1
  have p2 := prods_fn (M := 4000) (ls := [d, e]) (by simp [hd, he]) (by simp [hld, hle]) (by simp) (by decide)
  rw [show prodF [d, e] 1 = val d * val e by show 1 * val d * val e = _; rw [Nat.one_mul]] at p2
  refine Fn.ofC (rs := [.cell 4 63]) (nt := 28) Tryz.func62 rfl rfl rfl (by simp) rfl ?_
  refine .seq ?_
  refine .region ?_
  refine vk vbx ?_
  refine vk vbx ?_
  refine vk (van (zero_of iN) rN) ?_
  refine rn ?_
  refine .seq ?_
  refine .drawn 23 mixed (by kernel_rfl) ?_
  refine dv (vfa fN0) ?_
  refine dv (vfa fZ0) ?_
  refine dv (vldp aS) ?_
  refine dv (vfa fN0) ?_
  refine dv (vfa fZ0) ?_
  refine dv (vldp aS) ?_
  refine dv (v := .d (.sl (LL [n, m]))) (vbsl (LL_flat [n, m]) e2).deep ?_
  refine dv (v := .d (.sl (L (digs (val n * val m))))) (vcl (xs := [.sl (LL [n, m])]) (r := .d (.sl (L (digs (val n * val m))))) p1 Tryz.call47) ?_
  refine dv (vfa fN0) ?_
  refine dv (vfa fZ1) ?_
  refine dv (vldp aS) ?_
  refine dv (vfa fN0) ?_
  refine dv (vfa fZ1) ?_
  refine dv (vldp aS) ?_
  refine dv (v := .d (.sl (LL [d, e]))) (vbsl (LL_flat [d, e]) e2).deep ?_
  refine dv (v := .d (.sl (L (digs (val d * val e))))) (vcl (xs := [.sl (LL [d, e])]) (r := .d (.sl (L (digs (val d * val e))))) p2 Tryz.call47) ?_
  refine dv (vbd pZ iZ rZ) ?_
  refine dv (vfa fN1) ?_
  refine dv (vldp aB) ?_
  refine dv (vfa fN1) ?_
  refine dv (vldp aB) ?_
  refine dv (vbbn (.inr rfl) bo) ?_
  refine dv (vbd pN iN rN) ?_
  refine dz ?_
  refine stn ?_ sN (by decide)
  refine rn ?_
  refine .ret ?_
  exact ⟨_, ⟨.inr rfl, aN, sN, (by decide : (0 : Nat) < 3)⟩, rfl⟩
end Go.FL
/-
  rat: fold, Add, Mul.
-/
namespace Go.FL
open Go Go.Proofs

abbrev Q3 := Bool × Nat × Nat
abbrev lowQ (q : Q3) : QE := lowE q.1 q.2.1 q.2.2
/-- A number as it comes, by its values. -/
abbrev rq (r : RT) : Q3 := (r.1, val r.2.1, val r.2.2)
def foldE (op : Q3 → Q3 → Q3) : Q3 → List RT → QE
  | s, [] => .ok s
  | s, r :: rs => match lowQ (op s (rq r)) with
    | .error e => .error e
    | .ok t => foldE op t rs
def small3 (q : Q3) : Prop := (digs q.2.1).length ≤ 32 ∧ (digs q.2.2).length ≤ 32
theorem lowE_ok {b : Bool} {n d : Nat} {t : Q3} (h : lowE b n d = .ok t) : small3 t := by
  unfold lowE at h
  split at h
  · cases h
  · split at h
    · cases h
    · rename_i h2
      cases h
      exact ⟨Nat.le_of_not_lt fun h3 => h2 (.inl h3), Nat.le_of_not_lt fun h3 => h2 (.inr h3)⟩
theorem lowE_err {b : Bool} {n d : Nat} {e : Int} (h : lowE b n d = .error e) : e ≠ 0 := by
  unfold lowE at h
  split at h
  · cases h; decide
  · split at h
    · cases h; decide
    · cases h
theorem qe_err {x : QE} (h : ¬ qe x = 0) : ∃ e, x = .error e := by
  cases x with
  | error e => exact ⟨e, rfl⟩
  | ok t => exact absurd rfl h
theorem qe_ok {x : QE} (h : qe x = 0) (h2 : ∀ e, x = .error e → e ≠ 0) : ∃ t, x = .ok t := by
  cases x with
  | error e => exact absurd h (h2 e rfl)
  | ok t => exact ⟨t, rfl⟩
theorem rightR_len {r : RT} (h : rightR r = true) : r.2.1.length ≤ 32 ∧ r.2.2.length ≤ 32 := by
  have : RightP r.1 r.2.1 r.2.2 := of_decide_eq_true h
  exact ⟨this.2.2.1, this.2.2.2.1⟩
/-- The calls of a function of two numbers. -/
def twoFn (f : Nat) (op : Q3 → Q3 → Q3) : Prop :=
  ∀ (b c : Bool) (n d m e : List Nat), Ok n → Ok d → Ok m → Ok e → n.length ≤ 32 → d.length ≤ 32 → m.length ≤ 32 → e.length ≤ 32 →
    Fn Tryz.prog f [Nv b n d, Nv c m e] (.d (Nv (op (b, val n, val d) (c, val m, val e)).1 (digs (op (b, val n, val d) (c, val m, val e)).2.1) (digs (op (b, val n, val d) (c, val m, val e)).2.2)))
    ∧ (digs (op (b, val n, val d) (c, val m, val e)).2.1).length ≤ 100 ∧ (digs (op (b, val n, val d) (c, val m, val e)).2.2).length ≤ 100

theorem fold_fn {z : Int} {rs : List RT} {f : Nat} {op : Q3 → Q3 → Q3} (hz0 : 0 ≤ z) (hz1 : z ≤ 1) (h : ∀ r ∈ rs, okR r) (hl : rs.length ≤ 1048576) (hop : twoFn f op) (hcall : ∀ args w, (callFunc f args).run Tryz.prog w = .ok (.enter f args) w) :
    Fn Tryz.prog 65 [.i .i64 z, .sl (RVs rs), .fn f [] []] (.tup ((resD (if rs.all rightR = true then foldE op (false, z.natAbs, 1) rs else .error 22)).map .d)) := by
  have f1 := right_fn h hl
  have f2 := OfInt_fn (z := z) (by omega) (by omega)
  rw [decide_eq_false (show ¬ z < 0 by omega)] at f2
  have one : digs 1 = [1] := one_limb (n := 1) (by decide) (by decide)
  refine Fn.ofC (rs := [.cell 6 24, .tmp 7]) (nt := 42) Tryz.func65 rfl rfl rfl (by simp) (noBp_d _) ?_
  refine .seq ?_
  refine .region ?_
  refine vk (van (zero_of iR) rR) ?_
  refine asd ?_
  refine rn ?_
  refine .seq ?_
  refine .seq ?_
  refine .region ?_
  refine mvd ?_
  refine cl (xs := [.sl (RVs rs)]) ?_ f1 Tryz.call14
  refine nt_ ?_
  refine rn ?_
  refine .gh (Gh.keep [0, 1, 2, 6, 7, 15] rfl) ?_
  by_cases hr : rs.all rightR = false
  · rw [hr, if_neg (by decide)]
    refine cndt ?_
    refine .seq ?_
    refine .region ?_
    refine vk (vbd pR iR rR) ?_
    refine stn ?_ sR (by decide)
    refine asd ?_
    refine rn ?_
    refine .ret ?_
    exact ⟨_, _, ⟨.inr rfl, aR, sR, (by decide : (0 : Nat) < 3)⟩, rfl, rfl⟩
  rw [Bool.not_eq_false] at hr
  rw [hr, if_pos rfl]
  refine cndf ?_
  refine .skip ?_
  show AW _ _ _ _ _ _
  refine .seq ?_
  refine .region ?_
  refine mvd ?_
  refine cl (xs := [.i .i64 z]) ?_ f2 Tryz.call32
  refine vk (van (zero_of iR) rR) ?_
  refine stn ?_ sR (by decide)
  refine rn ?_
  refine .gh (Gh.keep [1, 2, 6, 8] rfl) ?_
  refine .seq ?_
  refine .seq ?_
  refine .region ?_
  refine mvd ?_
  refine ln ?_ (RVs_sz _) lR
  refine mvd ?_
  refine rn ?_
  refine .block ?_
  refine .loop (.gh (Gh.keep [2, 6, 8, 19, 20, 21] rfl) ?_)
  refine AL.cast (env' := [(2, .d (.fn f [] [])), (6, .nb [.b false, .sl [], .sl []]), (8, .nb [.b false, .sl (L (digs z.natAbs)), .sl (L (digs 1))]), (19, .d (.sl (RVs rs))), (20, .d (.i .i64 ((RVs rs).length : Nat))), (21, .d (.i .i64 ((0 : Nat) : Int)))]) (by rw [one]; rfl) ?_
  refine AL.ind (σ := Q3 × Nat) (m := fun p => rs.length - p.2) (e := fun p => [(2, .d (.fn f [] [])), (6, .nb [.b false, .sl [], .sl []]), (8, .nb [.b p.1.1, .sl (L (digs p.1.2.1)), .sl (L (digs p.1.2.2))]), (19, .d (.sl (RVs rs))), (20, .d (.i .i64 ((RVs rs).length : Nat))), (21, .d (.i .i64 (p.2 : Int)))]) (h := fun _ => [])
    (I := fun p => p.2 ≤ rs.length ∧ small3 p.1 ∧ foldE op p.1 (rs.drop p.2) = foldE op (false, z.natAbs, 1) rs) ?_ ((false, z.natAbs, 1), 0) ⟨Nat.zero_le _, ⟨by have := digs_len (n := z.natAbs) (k := 32) (Nat.lt_of_lt_of_le (show z.natAbs < 2 by omega) (by decide)); exact this, by rw [one]; decide⟩, rfl⟩
  rintro ⟨s, i⟩ ⟨h1, h2, h3⟩ ih
  dsimp only at h1 h2 h3 ih ⊢
  refine .seq ?_
  refine .region ?_
  refine bi ?_
  refine rn ?_
  refine .seq ?_
  by_cases hi : i < rs.length
  · rw [decide_eq_true (show (i : Int) < ((RVs rs).length : Nat) by rw [RVs_length]; omega)]
    have hx : rs[i]? = some rs[i] := List.getElem?_eq_getElem hi
    have hdr : rs.drop i = rs[i] :: rs.drop (i + 1) := List.drop_eq_getElem_cons hi
    generalize rs[i] = r at hx hdr
    have hmem := List.mem_of_getElem? hx
    obtain ⟨o1, o2, o3, o4⟩ := h r hmem
    obtain ⟨l1, l2⟩ := rightR_len (List.all_eq_true.1 hr r hmem)
    obtain ⟨w1, w3, w4⟩ := hop s.1 r.1 (digs s.2.1) (digs s.2.2) r.2.1 r.2.2 (digs_ok _) (digs_ok _) o1 o2 h2.1 h2.2 l1 l2
    rw [hdr] at h3
    rw [val_digs, val_digs] at w1 w3 w4
    rw [foldE] at h3
    have hop2 : op (s.1, s.2.1, s.2.2) (r.1, val r.2.1, val r.2.2) = op s (rq r) := rfl
    rw [hop2] at w1 w3 w4
    generalize op s (rq r) = t at *
    have w2 := lowest_fn (M := 100) (b := t.1) (digs_ok t.2.1) (digs_ok t.2.2) w3 w4 (by decide)
    rw [val_digs, val_digs, lowN_res] at w2
    have hxs : ∀ q, lowQ t = .ok q → small3 q := fun q hq => lowE_ok hq
    have hxe : ∀ e, lowQ t = .error e → e ≠ 0 := fun e he => lowE_err he
    replace w2 : Fn Tryz.prog 63 [Nv t.1 (digs t.2.1) (digs t.2.2)] (.tup ((resD (lowQ t)).map .d)) := w2
    generalize lowQ t = x at *
    refine cndt ?_
    refine .skip ?_
    show AW _ _ _ _ _ _
    refine .seq ?_
    refine .block ?_
    refine .seq ?_
    refine .region ?_
    refine ix i ?_ rfl (RVs_at hx) rfl slR
    refine vk (vlda aR sR) ?_
    refine vk (van (zero_of iR) rR) ?_
    refine stn ?_ sR (by decide)
    refine RL.gh (Gh.nbp (t := 10) rfl) ?_
    refine rn ?_
    refine .gh (Gh.keep [2, 6, 8, 10, 19, 20, 21] rfl) ?_
    refine .seq ?_
    refine .drawnF 11 [9] [(11, .nb [.b (qb x), .sl (L (qn x)), .sl (L (qd x))])] [] mixed (by kernel_rfl) rfl ?_
    refine dv vmvd ?_
    refine dv (vldn aR sR) ?_
    refine dv (v := .d (Nv s.1 (digs s.2.1) (digs s.2.2))) (vcl (xs := [Qv s]) (r := .d (Nv s.1 (digs s.2.1) (digs s.2.2))) (of_fn s.1 (digs s.2.1) (digs s.2.2)) Tryz.call61) ?_
    refine dv (vlda aR sR) ?_
    refine dv (v := .d (Nv r.1 r.2.1 r.2.2)) (vcl (xs := [Rv r.1 r.2.1 r.2.2]) (r := .d (Nv r.1 r.2.1 r.2.2)) (of_fn r.1 r.2.1 r.2.2) Tryz.call61) ?_
    refine dv (v := .d (Nv t.1 (digs t.2.1) (digs t.2.2))) (vcl (xs := [Nv s.1 (digs s.2.1) (digs s.2.2), Nv r.1 r.2.1 r.2.2]) (r := .d (Nv t.1 (digs t.2.1) (digs t.2.2))) w1 hcall) ?_
    refine dv (v := .d (.tup (resD x))) (VOK.tupd (vcl (xs := [Nv t.1 (digs t.2.1) (digs t.2.2)]) w2 Tryz.call63)) ?_
    refine dv vmvd ?_
    refine dv vex ?_
    refine dv vex ?_
    refine dv (van (zero_of iR) rR) ?_
    refine dz ?_
    refine ⟨?_, ?_, ?_⟩
    · intro k hk
      simp only [List.mem_cons, List.not_mem_nil, or_false] at hk
      subst hk
      exact ⟨_, _, _, rfl, rfl, rfl, rfl, rfl, rfl, vex⟩
    · intro om e hom hge
      cases hom
      exact ok_stn (cs := [.b false, .sl [], .sl []]) (cs' := [.b (qb x), .sl (L (qn x)), .sl (L (qd x))]) sR (by decide) rfl ((hge 11 (fun k hk v hv => by
          simp only [List.mem_cons, List.not_mem_nil, or_false] at hk
          subst hk; exact (by decide : ¬ (some 34 = some 11)) (congrArg (Option.map Prod.fst) hv))).trans rfl) ((congrArg deepOf (hge 33 (fun k hk v hv => by
          simp only [List.mem_cons, List.not_mem_nil, or_false] at hk
          subst hk; exact (by decide : ¬ (some 34 = some 33)) (congrArg (Option.map Prod.fst) hv)))).trans rfl) rfl rfl rfl rfl ⟨rfl, rfl⟩
    refine RL.gh (Gh.nbp (t := 11) rfl) ?_
    refine asd ?_
    refine rn ?_
    refine .gh (Gh.keep [2, 6, 8, 11, 12, 19, 20, 21] rfl) ?_
    refine .seq ?_
    refine .seq ?_
    refine .region ?_
    refine mvd ?_
    refine bi ?_
    refine rn ?_
    by_cases hxq : ¬ qe x = 0
    · rw [decide_eq_false hxq]
      obtain ⟨e, rfl⟩ := qe_err hxq
      refine cndt ?_
      refine .seq ?_
      refine .region ?_
      refine vk (vbd pR iR rR) ?_
      refine mvd ?_
      refine stn ?_ sR (by decide)
      refine asd ?_
      refine rn ?_
      refine .ret ?_
      exact ⟨_, _, ⟨.inr rfl, aR, sR, (by decide : (0 : Nat) < 3)⟩, rfl, by rw [← h3]; rfl⟩
    rw [Decidable.not_not] at hxq
    rw [decide_eq_true hxq]
    obtain ⟨q, rfl⟩ := qe_ok hxq hxe
    refine cndf ?_
    refine .skip ?_
    show AW _ _ _ _ _ _
    refine .region ?_
    refine vk (vlda aR sR) ?_
    refine stn ?_ sR (by decide)
    refine .nil ?_
    show AW _ _ _ _ _ _
    refine .region ?_
    refine ad ((i + 1 : Nat) : Int) ?_ ?_
    · omega
    refine mvd ?_
    refine .nil ?_
    refine AL.gh (Gh.keep [2, 6, 8, 19, 20, 21] rfl) ?_
    exact ih (q, i + 1) ⟨by dsimp only; omega, hxs q rfl, h3⟩ (by dsimp only; omega)
  rw [decide_eq_false (show ¬ (i : Int) < ((RVs rs).length : Nat) by rw [RVs_length]; omega)]
  refine cndf ?_
  refine .exit ?_
  show AW _ _ _ _ _ _
  refine .seq ?_
  refine .region ?_
  refine vk (vldn aR sR) ?_
  refine stn ?_ sR (by decide)
  refine asd ?_
  refine rn ?_
  refine .ret ?_
  rw [List.drop_eq_nil_of_le (by omega)] at h3
  exact ⟨_, _, ⟨.inr rfl, aR, sR, (by decide : (0 : Nat) < 3)⟩, rfl, by rw [← h3]; rfl⟩

theorem mul_len {x y : List Nat} {k : Nat} (hx : Ok x) (hy : Ok y) (lx : x.length ≤ k) (ly : y.length ≤ k) : (digs (val x * val y)).length ≤ 2 * k :=
  Nat.le_trans (digs_len (k := _ + _) (by rw [Nat.pow_add]; exact Nat.mul_lt_mul'' (val_lt hx) (val_lt hy))) (by omega)
theorem add_len {x y k : Nat} (hx : (digs x).length ≤ k) (hy : (digs y).length ≤ k) : (digs (x + y)).length ≤ k + 1 := by
  have h1 := Nat.lt_of_lt_of_le (val_lt (digs_ok x)) (Nat.pow_le_pow_right (n := 4294967296) (by decide) hx)
  have h2 := Nat.lt_of_lt_of_le (val_lt (digs_ok y)) (Nat.pow_le_pow_right (n := 4294967296) (by decide) hy)
  rw [val_digs] at h1 h2
  refine digs_len ?_
  rw [pow_split]; omega
theorem sub_len {x y k : Nat} (hx : (digs x).length ≤ k) : (digs (x - y)).length ≤ k := Nat.le_trans (digs_mono (Nat.sub_le x y)) hx
theorem times_two : twoFn 62 timesN := by
  intro b c n d m e hn hd hm he ln ld lm le
  have l1 := mul_len hn hm ln lm
  have l2 := mul_len hd he ld le
  exact ⟨times_fn hn hd hm he (by omega) (by omega) (by omega) (by omega), by show (digs (val n * val m)).length ≤ 100; omega, by show (digs (val d * val e)).length ≤ 100; omega⟩
def mulE (rs : List RT) : QE := if rs.all rightR = true then foldE timesN (false, 1, 1) rs else .error 22

theorem RMul_fn {rs : List RT} (h : ∀ r ∈ rs, okR r) (hl : rs.length ≤ 1048576) : Fn Tryz.prog 18 [.sl (RVs rs)] (.tup ((resD (mulE rs)).map .d)) := by
  have f := fold_fn (z := 1) (by decide) (by decide) h hl times_two Tryz.call62
  replace f : Fn Tryz.prog 65 [.i .i64 1, .sl (RVs rs), .fn 62 [] []] (.tup ((resD (mulE rs)).map .d)) := f
  generalize mulE rs = x at *
  refine Fn.ofC (rs := [.cell 2 24, .tmp 3]) (nt := 8) Tryz.func18 rfl rfl rfl (by simp) (noBp_d _) ?_
  refine .seq ?_
  refine .region ?_
  refine vk (van (zero_of iR) rR) ?_
  refine asd ?_
  refine rn ?_
  refine .seq ?_
  refine .region ?_
  refine mvd ?_
  refine vk (av := .d (.tup (resD x))) (VOK.tupd (vcl (xs := [.i .i64 1, .sl (RVs rs), .fn 62 [] []]) f Tryz.call65)) ?_
  refine vk vex ?_
  refine vk vex ?_
  refine stn ?_ sR (by decide)
  refine asd ?_
  refine rn ?_
  refine .ret ?_
  exact ⟨_, _, ⟨.inr rfl, aR, sR, (by decide : (0 : Nat) < 3)⟩, rfl, rfl⟩
end Go.FL
/-
  GP, 2: facts of the types.
-/
namespace Go.FL
open Go Go.Proofs

theorem ga_bool : aggT Tryz.prog 4 = some false := by kernel_rfl
theorem gz_bool : szOf Tryz.prog 4 = 1 := by kernel_rfl
theorem gk_int : Tryz.prog.underlying 3 = some (.int .i64) := by kernel_rfl
theorem gk_int32 : Tryz.prog.underlying 21 = some (.int .i32) := by kernel_rfl
theorem ga_uint32 : aggT Tryz.prog 40 = some false := by kernel_rfl
theorem gk_uint64 : Tryz.prog.underlying 52 = some (.int .u64) := by kernel_rfl
theorem gA_R : aggT Tryz.prog 24 = some true := by kernel_rfl
theorem gS_R : szOf Tryz.prog 24 = 3 := by kernel_rfl
theorem gF_R_0 : fieldT Tryz.prog 24 0 = some (0, 1) := by kernel_rfl
theorem gF_R_1 : fieldT Tryz.prog 24 1 = some (1, 1) := by kernel_rfl
theorem gF_R_2 : fieldT Tryz.prog 24 2 = some (2, 1) := by kernel_rfl
theorem gP_R : structT Tryz.prog 24 = some [(0, 1), (1, 1), (2, 1)] := by kernel_rfl
theorem gI_R : (Tryz.prog.info? 24).bind (·.zero) = some (.agg #[.bool false, .slice none 0 0, .slice none 0 0]) := by kernel_rfl
theorem gZ_R (w : World) (I : Nat → Prop) : RepAll w I [.b false, .sl [], .sl []] (Value.agg #[.bool false, .slice none 0 0, .slice none 0 0]).cells.toList := .cons (.b _) (.cons (.sl0 _ _) (.cons (.sl0 _ _) (.nil)))
theorem gP_Z : structT Tryz.prog 61 = some [(0, 1), (1, 1)] := by kernel_rfl
theorem gI_Z : (Tryz.prog.info? 61).bind (·.zero) = some (.agg #[.slice none 0 0, .slice none 0 0]) := by kernel_rfl
theorem gZ_Z (w : World) (I : Nat → Prop) : RepAll w I [.sl [], .sl []] (Value.agg #[.slice none 0 0, .slice none 0 0]).cells.toList := .cons (.sl0 _ _) (.cons (.sl0 _ _) (.nil))
theorem gP_N : structT Tryz.prog 63 = some [(0, 2), (2, 1)] := by kernel_rfl
theorem gI_N : (Tryz.prog.info? 63).bind (·.zero) = some (.agg #[.slice none 0 0, .slice none 0 0, .bool false]) := by kernel_rfl
theorem gZ_N (w : World) (I : Nat → Prop) : RepAll w I [.sl [], .sl [], .b false] (Value.agg #[.slice none 0 0, .slice none 0 0, .bool false]).cells.toList := .cons (.sl0 _ _) (.cons (.sl0 _ _) (.cons (.b _) (.nil)))
theorem ga_L : aggT Tryz.prog 22 = some false := by kernel_rfl
theorem gs_L : sliceT Tryz.prog 22 = some (40, 1, 4) := by kernel_rfl
theorem ge_L : elemT Tryz.prog 22 = some (40, 1, 4, .int .u32 0) := by kernel_rfl
theorem gu_L : Tryz.prog.underlying 22 = some (.slice (Tryz.prog.elem 22)) := by kernel_rfl
theorem ge_LL : elemT Tryz.prog 72 = some (22, 1, 24, .slice none 0 0) := by kernel_rfl
theorem ge_RVs : elemT Tryz.prog 57 = some (24, 3, 56, .agg #[.bool false, .slice none 0 0, .slice none 0 0]) := by kernel_rfl
theorem RVs_flat (xs : List RT) : ∀ d ∈ RVs xs, d.flat = true ∧ d.cells.length = 3 := fun x hx => by
  simp only [RVs, List.mem_map] at hx
  obtain ⟨n, _, rfl⟩ := hx
  exact ⟨by simp [DV.flat, DV.cells, DV.leaf], rfl⟩
end Go.FL
/-
  Texts and their numbers.
-/
namespace Go.FL
open Go Go.Proofs

/-- What digits read as, behind a number; or none. -/
def pv : List Nat → Nat → Option Nat
  | [], n => some n
  | c :: r, n => if 48 ≤ c ∧ c ≤ 57 then pv r (n * 10 + (c - 48)) else none
def parN (bs : List Nat) : Nat := (pv bs 0).getD 0
def parOK (bs : List Nat) : Bool := (pv bs 0).isSome && !bs.isEmpty
end Go.FL
/-
  nat.Parse; glyphref01's Parse, Print.
-/
namespace Go.FL
open Go Go.Proofs

theorem drop_at {bs : List Nat} {i : Nat} (h : i < bs.length) : bs.drop i = bs[i] :: bs.drop (i + 1) := List.drop_eq_getElem_cons h
theorem pow10_le (i : Nat) : 10 ^ i ≤ 4294967296 ^ i := Nat.pow_le_pow_left (by decide) i
theorem empty_iff (s : ByteArray) : decide (s = ByteArray.empty) = (byts s).isEmpty := by
  by_cases h : s = ByteArray.empty
  · subst h; rfl
  · rw [decide_eq_false h]
    cases hb : byts s with
    | nil =>
      exfalso; apply h
      have : s.data.toList = [] := by simpa [byts] using hb
      apply ByteArray.ext
      apply Array.ext'
      rw [this]; rfl
    | cons x r => rfl
theorem u8_sub {c : Nat} (h1 : 48 ≤ c) (h2 : c ≤ 57) : IntKind.u8.wrap ((c : Int) - 48) = ((c - 48 : Nat) : Int) := by
  simp only [IntKind.wrap, IntKind.bits, IntKind.signed]; simp; omega
theorem Parse_fn {s : ByteArray} (hl : s.size ≤ 5000) : Fn Tryz.prog 74 [.s s] (.tup [.d (.sl (L (digs (parN (byts s))))), .d (.b (parOK (byts s)))]) := by
  have hbl := byts_length s
  have hb256 := byts_lt s
  have hemp := empty_iff s
  refine Fn.of (rs := [.tmp 2, .tmp 3]) (nt := 33) Tryz.func74 rfl rfl rfl (by simp) rfl ?_
  refine .seq ?_
  refine .region ?_
  refine asn ?_
  refine asd ?_
  refine rn ?_
  refine .seq ?_
  refine .region ?_
  refine asn ?_
  refine rn ?_
  refine .mid (fun e H' => H' = [] ∧ ∃ n, pv (byts s) 0 = some n ∧ e = [(0, .d (.s s)), (4, .d (.sl (L (digs n))))]) ?_ ?_
  · refine .seq ?_
    refine .region ?_
    refine mvd ?_
    refine csb st q8 u8 ?_
    generalize byts s = bs at *
    refine ln ?_ ⟨1, B_sz bs⟩ l8
    refine mvd ?_
    refine rn ?_
    refine .block ?_
    refine .gh (Gh.nlD (t := 4) rfl) ?_
    refine .loop (.gh (Gh.keep [0, 2, 3, 4, 8, 9, 10] rfl) ?_)
    refine AL.cast (env' := [(0, .d (.s s)), (2, .nl), (3, .d (.b false)), (4, .d (.sl (L (digs 0)))), (8, .d (.sl (B bs))), (9, .d (.i .i64 ((B bs).length : Nat))), (10, .d (.i .i64 ((0 : Nat) : Int)))]) (by rw [digs_zero]; rfl) ?_
    refine AL.ind (σ := Nat × Nat) (m := fun p => bs.length - p.1) (e := fun p => [(0, .d (.s s)), (2, .nl), (3, .d (.b false)), (4, .d (.sl (L (digs p.2)))), (8, .d (.sl (B bs))), (9, .d (.i .i64 ((B bs).length : Nat))), (10, .d (.i .i64 (p.1 : Int)))]) (h := fun _ => [])
      (I := fun p => p.1 ≤ bs.length ∧ pv bs 0 = pv (bs.drop p.1) p.2 ∧ p.2 < 10 ^ p.1) ?_ (0, 0) ⟨by simp, by simp, by simp⟩
    rintro ⟨i, n⟩ ⟨h1, h2, h3⟩ ih
    dsimp only at h1 h2 h3 ih ⊢
    refine .seq ?_
    refine .region ?_
    refine bi ?_
    refine rn ?_
    refine .seq ?_
    by_cases hi : i < bs.length
    · rw [decide_eq_true (show (i : Int) < ((B bs).length : Nat) by rw [B_length]; omega)]
      have hx : bs[i]? = some bs[i] := List.getElem?_eq_getElem hi
      rw [drop_at hi] at h2
      generalize bs[i] = c at *
      have hc256 := hb256 c (List.mem_of_getElem? hx)
      refine cndt ?_
      refine .skip ?_
      show AW _ _ _ _ _ _
      refine .seq ?_
      refine .block ?_
      refine .seq ?_
      refine .region ?_
      refine ix i ?_ rfl (B_at hx) rfl s8
      refine ldp ?_ a8
      refine asd ?_
      refine rn ?_
      refine .gh (Gh.keep [0, 2, 3, 4, 6, 8, 9, 10] rfl) ?_
      refine .mid (fun e H' => H' = [] ∧ (48 ≤ c ∧ c ≤ 57) ∧ e = [(0, .d (.s s)), (2, .nl), (3, .d (.b false)), (4, .d (.sl (L (digs n)))), (6, .d (.i .u8 (c : Int))), (8, .d (.sl (B bs))), (9, .d (.i .i64 ((B bs).length : Nat))), (10, .d (.i .i64 (i : Int)))]) ?_ ?_
      · have bad : ¬ (48 ≤ c ∧ c ≤ 57) → parN bs = 0 ∧ parOK bs = false := fun h => by
          have : pv bs 0 = none := by rw [h2, pv, if_neg h]
          unfold parN parOK; rw [this]; exact ⟨rfl, rfl⟩
        refine .seq ?_
        refine .region ?_
        refine mvd ?_
        refine bi ?_
        refine mvd ?_
        by_cases hc1 : c < 48
        · rw [decide_eq_true (show (c : Int) < 48 by omega)]
          obtain ⟨b1, b2⟩ := bad (by omega)
          refine gf ?_
          refine gf ?_
          refine pkd ?_
          refine rn ?_
          refine cndt ?_
          refine .seq ?_
          refine .region ?_
          refine asn ?_
          refine asd ?_
          refine rn ?_
          refine .gh (Gh.nlD (t := 2) rfl) ?_
          refine .ret ?_
          exact ⟨by decide, by rw [b1, b2, digs_zero]; rfl, rfl, rfl⟩
        · rw [decide_eq_false (show ¬ (c : Int) < 48 by omega)]
          refine mvd ?_
          refine bi ?_
          refine pkd ?_
          refine rn ?_
          by_cases hc2 : 57 < c
          · rw [decide_eq_true (show (57 : Int) < (c : Int) by omega)]
            obtain ⟨b1, b2⟩ := bad (by omega)
            refine cndt ?_
            refine .seq ?_
            refine .region ?_
            refine asn ?_
            refine asd ?_
            refine rn ?_
            refine .gh (Gh.nlD (t := 2) rfl) ?_
            refine .ret ?_
            exact ⟨by decide, by rw [b1, b2, digs_zero]; rfl, rfl, rfl⟩
          · rw [decide_eq_false (show ¬ (57 : Int) < (c : Int) by omega)]
            refine cndf ?_
            refine .gh (Gh.keep [0, 2, 3, 4, 6, 8, 9, 10] rfl) ?_
            refine .skip ?_
            exact ⟨rfl, by omega, rfl⟩
      rintro _ _ ⟨rfl, hc, rfl⟩
      have hnl : (digs n).length ≤ 5000 := Nat.le_trans (digs_len (Nat.lt_of_lt_of_le h3 (pow10_le i))) (by omega)
      have hv10 : val [10] = 10 := by simp [val]
      have hpl : (digs (n * 10)).length ≤ 5001 := Nat.le_trans (digs_len (k := i + 1) (by
        refine Nat.lt_of_lt_of_le ?_ (pow10_le (i + 1))
        rw [Nat.pow_succ]; omega)) (by omega)
      have fp := prod_fn (a := digs n) (b := [10]) (digs_ok n) (by simp [Ok]) (by omega) (by simp)
      rw [val_digs, hv10] at fp
      have fs := sum_fn (M := 5001) (ls := [digs (n * 10), [c - 48]]) (by simp [digs_ok]; simp [Ok]; omega) (by simp; omega) (by simp) (by decide)
      have es : ([digs (n * 10), [c - 48]].map val).sum = n * 10 + (c - 48) := by simp [val_digs, val]
      rw [es] at fs
      generalize digs (n * 10) = pd at *
      refine .region ?_
      refine mvd ?_
      refine bsl ?_ ?_ e32
      · simp [DV.flat, DV.cells, DV.leaf]
      refine fz (p := .t 21) ?_
      refine cl (xs := [.sl (L (digs n)), .sl (L [10])]) ?_ fp Tryz.call84
      refine mvd ?_
      refine bie (.i .u8 ((c - 48 : Nat) : Int)) ?_ ?_
      · exact ⟨trivial, by rw [u8_sub hc.1 hc.2]⟩
      refine cve ((c - 48 : Nat) : Int) (toU32 (by omega)) ?_ u8 u32
      refine bsl ?_ ?_ e32
      · simp [DV.flat, DV.cells, DV.leaf]
      refine fz (p := .t 26) ?_
      refine bsl ?_ ?_ e2
      · simp [DV.flat, DV.cells, DV.leaf]
      refine fz (p := .t 27) ?_
      refine cl (xs := [.sl (LL [pd, [c - 48]])]) ?_ fs Tryz.call46
      refine asd ?_
      refine .nil ?_
      show AW _ _ _ _ _ _
      refine .region ?_
      refine ad ((i + 1 : Nat) : Int) ?_ ?_
      · omega
      refine mvd ?_
      refine rn ?_
      refine .gh (Gh.keep [0, 2, 3, 4, 8, 9, 10] rfl) ?_
      refine ih (i + 1, n * 10 + (c - 48)) ⟨by dsimp only; omega, ?_, ?_⟩ (by dsimp only; omega)
      · dsimp only
        rw [h2, pv, if_pos hc]
      · dsimp only
        rw [Nat.pow_succ]; omega
    · rw [decide_eq_false (show ¬ (i : Int) < ((B bs).length : Nat) by rw [B_length]; omega)]
      refine cndf ?_
      refine .gh (Gh.keep [0, 4] rfl) ?_
      refine .exit ?_
      rw [List.drop_eq_nil_of_le (by omega)] at h2
      exact ⟨rfl, n, h2, rfl⟩
  rintro _ _ ⟨rfl, n, hn, rfl⟩
  refine .seq ?_
  refine .region ?_
  refine mvd ?_
  refine mvd ?_
  refine seq_ ?_
  refine asd ?_
  refine asd ?_
  refine rn ?_
  refine .ret ?_
  have e1 : parN (byts s) = n := by unfold parN; rw [hn]; rfl
  have e2 : parOK (byts s) = !(byts s).isEmpty := by unfold parOK; rw [hn]; rfl
  refine ⟨by decide, ?_, rfl, rfl⟩
  rw [e1, e2, ← hemp]; rfl
end Go.FL
/-
  glyphref01.Print.
-/
namespace Go.FL
open Go Go.Proofs

end Go.FL
/-
  GP, 3: the contracts of numbers that were proved by hand, in the printed form.
-/
namespace Go.FL
open Go Go.Proofs

def okL (k : Nat) (a : List Nat) : Bool := a.all (fun x => decide (x < 4294967296)) && decide (a.length ≤ k)
theorem okL_iff {k : Nat} {a : List Nat} : okL k a = true ↔ Ok a ∧ a.length ≤ k := by simp [okL, Ok]
theorem okL_all {k : Nat} {ls : List (List Nat)} (h : ls.all (okL k) = true) : (∀ a ∈ ls, Ok a) ∧ ∀ a ∈ ls, a.length ≤ k :=
  ⟨fun a ha => (okL_iff.1 (List.all_eq_true.1 h a ha)).1, fun a ha => (okL_iff.1 (List.all_eq_true.1 h a ha)).2⟩
def okRB (r : RT) : Bool := okL 35184372087808 r.2.1 && okL 35184372087808 r.2.2
theorem okRB_iff {r : RT} : okRB r = true ↔ okR r := by
  simp only [okRB, Bool.and_eq_true, okL_iff, okR]
  exact ⟨fun ⟨⟨a, b⟩, c, d⟩ => ⟨a, c, b, d⟩, fun ⟨a, c, b, d⟩ => ⟨⟨a, b⟩, c, d⟩⟩
theorem okRB_all {rs : List RT} (h : rs.all okRB = true) : ∀ r ∈ rs, okR r := fun r hr => okRB_iff.1 (List.all_eq_true.1 h r hr)
abbrev qR (q : Q3) : RT := (q.1, digs q.2.1, digs q.2.2)
def resQ : QE → RT × Int
  | .error e => ((false, [], []), e)
  | .ok q => (qR q, 0)
theorem resQ_D (x : QE) : (resD x).map AV.d = [AV.d (.ag [.b (resQ x).1.1, .sl (L (resQ x).1.2.1), .sl (L (resQ x).1.2.2)]), .d (.i .i64 (resQ x).2)] := by cases x <;> rfl
abbrev numQ (n : (List Nat × List Nat) × Bool) : Q3 := (n.2, val n.1.1, val n.1.2)
abbrev qN (q : Q3) : (List Nat × List Nat) × Bool := ((digs q.2.1, digs q.2.2), q.1)

def nProduct (ls : List (List Nat)) : Option (List Nat) := if (ls.all (okL 40000) && decide (ls.length ≤ 10)) = true then some (digs (prodF ls 1)) else none
theorem nProduct_ok {ls : List (List Nat)} {r : List Nat} (h : nProduct ls = some r) : Fn Tryz.prog 47 [.sl (LL ls)] (.d (.sl (L r))) := by
  obtain ⟨hc, h⟩ := ite_n h
  cases h
  rw [Bool.and_eq_true, decide_eq_true_eq] at hc
  obtain ⟨h1, h2⟩ := okL_all hc.1
  exact prods_fn h1 h2 hc.2 (by decide)

def nSum (ls : List (List Nat)) : Option (List Nat) := if (ls.all (okL 100000) && decide (ls.length ≤ 1000)) = true then some (digs (ls.map val).sum) else none
theorem nSum_ok {ls : List (List Nat)} {r : List Nat} (h : nSum ls = some r) : Fn Tryz.prog 46 [.sl (LL ls)] (.d (.sl (L r))) := by
  obtain ⟨hc, h⟩ := ite_n h
  cases h
  rw [Bool.and_eq_true, decide_eq_true_eq] at hc
  obtain ⟨h1, h2⟩ := okL_all hc.1
  exact sum_fn h1 h2 hc.2 (by decide)

def nMinus (a : List Nat) (b : List Nat) : Option (List Nat × Bool) := if (okL 500000 a && okL 500000 b) = true then some ((digs (minN (val a) (val b)), decide (val b ≤ val a))) else none
theorem nMinus_ok {a : List Nat} {b : List Nat} {r : List Nat × Bool} (h : nMinus a b = some r) : Fn Tryz.prog 52 [.sl (L a), .sl (L b)] (.tup [.d (.sl (L r.1)), .d (.b r.2)]) := by
  obtain ⟨hc, h⟩ := ite_n h
  cases h
  rw [Bool.and_eq_true] at hc
  obtain ⟨⟨h1, h2⟩, h3, h4⟩ := And.intro (okL_iff.1 hc.1) (okL_iff.1 hc.2)
  exact Minus_fn h1 h3 (by omega) (by omega)

def nDivMod (a : List Nat) (b : List Nat) : Option (List Nat × List Nat × Bool) := if (okL 500000 a && okL 500000 b) = true then some ((digs (val a / val b), digs (remN (val a) (val b)), decide (val b ≠ 0))) else none
theorem nDivMod_ok {a : List Nat} {b : List Nat} {r : List Nat × List Nat × Bool} (h : nDivMod a b = some r) : Fn Tryz.prog 53 [.sl (L a), .sl (L b)] (.tup [.d (.sl (L r.1)), .d (.sl (L r.2.1)), .d (.b r.2.2)]) := by
  obtain ⟨hc, h⟩ := ite_n h
  cases h
  rw [Bool.and_eq_true] at hc
  obtain ⟨⟨h1, h2⟩, h3, h4⟩ := And.intro (okL_iff.1 hc.1) (okL_iff.1 hc.2)
  exact DivMod_fn h1 h3 (by omega) (by omega)

def nCompare (a : List Nat) (b : List Nat) : Option (Int) := if (okL 35184372087808 a && okL 35184372087808 b) = true then some (cmpN (val a) (val b)) else none
theorem nCompare_ok {a : List Nat} {b : List Nat} {r : Int} (h : nCompare a b = some r) : Fn Tryz.prog 45 [.sl (L a), .sl (L b)] (.d (.i .i64 r)) := by
  obtain ⟨hc, h⟩ := ite_n h
  cases h
  rw [Bool.and_eq_true] at hc
  obtain ⟨⟨h1, h2⟩, h3, h4⟩ := And.intro (okL_iff.1 hc.1) (okL_iff.1 hc.2)
  exact Compare_fn h1 h3 (by omega) (by omega)

def nSmall (a : List Nat) : Option (Int × Bool) := if okL 1048576 a = true then some (((smallN a : Nat), decide (bitsN (val a) ≤ 63))) else none
theorem nSmall_ok {a : List Nat} {r : Int × Bool} (h : nSmall a = some r) : Fn Tryz.prog 35 [.sl (L a)] (.tup [.d (.i .i64 r.1), .d (.b r.2)]) := by
  obtain ⟨hc, h⟩ := ite_n h
  cases h
  obtain ⟨h1, h2⟩ := okL_iff.1 hc
  exact Small_fn h1 (by omega)

def nPrint (a : List Nat) : Option (ByteArray) := if okL 1048576 a = true then some (bstr (decT (val a))) else none
theorem nPrint_ok {a : List Nat} {r : ByteArray} (h : nPrint a = some r) : Fn Tryz.prog 76 [.sl (L a)] (.d (.s r)) := by
  obtain ⟨hc, h⟩ := ite_n h
  cases h
  obtain ⟨h1, h2⟩ := okL_iff.1 hc
  exact Print_fn h1 (by omega)

def nParse (s : ByteArray) : Option (List Nat × Bool) := if s.size ≤ 5000 then some ((digs (parN (byts s)), parOK (byts s))) else none
theorem nParse_ok {s : ByteArray} {r : List Nat × Bool} (h : nParse s = some r) : Fn Tryz.prog 74 [.s s] (.tup [.d (.sl (L r.1)), .d (.b r.2)]) := by
  obtain ⟨hc, h⟩ := ite_n h
  cases h
  exact Parse_fn hc

def nPower (a : List Nat) (n : Int) (m : Int) : Option (List Nat × Bool) := if (okL 1000 a && decide (n < 9223372036854775808 ∧ 0 ≤ m ∧ m ≤ 1000)) = true then some (if n < 0 then ([], false) else (digs (pwV (val a) n.toNat m.toNat), decide (pwOK (val a) n.toNat m.toNat))) else none
theorem nPower_ok {a : List Nat} {n : Int} {m : Int} {r : List Nat × Bool} (h : nPower a n m = some r) : Fn Tryz.prog 36 [.sl (L a), .i .i64 n, .i .i64 m] (.tup [.d (.sl (L r.1)), .d (.b r.2)]) := by
  obtain ⟨hc, h⟩ := ite_n h
  cases h
  rw [Bool.and_eq_true, decide_eq_true_eq] at hc
  obtain ⟨h1, h2⟩ := okL_iff.1 hc.1
  by_cases hn : n < 0
  · rw [if_pos hn]; exact PowerNeg_fn h1 (by omega) hn
  rw [if_neg hn]
  have := Power_fn h1 (by omega) (n := n.toNat) (most := m.toNat) (by omega) (by omega)
  rw [Int.toNat_of_nonneg (by omega), Int.toNat_of_nonneg (by omega)] at this
  exact this

def ratOne : Option (List Nat) := if True then some ([1]) else none
theorem ratOne_ok {r : List Nat} (h : ratOne = some r) : Fn Tryz.prog 34 [] (.own 40 (L r)) := by
  obtain ⟨hc, h⟩ := ite_n h
  cases h
  exact one_fn

def ref2One : Option (List Nat) := if True then some ([1]) else none
theorem ref2One_ok {r : List Nat} (h : ref2One = some r) : Fn Tryz.prog 41 [] (.own 40 (L r)) := by
  obtain ⟨hc, h⟩ := ite_n h
  cases h
  exact refOne_fn

def ratOf (a : RT) : Option ((List Nat × List Nat) × Bool) := if True then some (((a.2.1, a.2.2), a.1)) else none
theorem ratOf_ok {a : RT} {r : (List Nat × List Nat) × Bool} (h : ratOf a = some r) : Fn Tryz.prog 61 [.ag [.b a.1, .sl (L a.2.1), .sl (L a.2.2)]] (.d (.ag [.sl (L r.1.1), .sl (L r.1.2), .b r.2])) := by
  obtain ⟨hc, h⟩ := ite_n h
  cases h
  exact of_fn _ _ _

def ratLowest (a : (List Nat × List Nat) × Bool) : Option (RT × Int) := if (okL 100000 a.1.1 && okL 100000 a.1.2) = true then some (resQ (lowE a.2 (val a.1.1) (val a.1.2))) else none
theorem ratLowest_ok {a : (List Nat × List Nat) × Bool} {r : RT × Int} (h : ratLowest a = some r) : Fn Tryz.prog 63 [.ag [.sl (L a.1.1), .sl (L a.1.2), .b a.2]] (.tup [.d (.ag [.b r.1.1, .sl (L r.1.2.1), .sl (L r.1.2.2)]), .d (.i .i64 r.2)]) := by
  obtain ⟨hc, h⟩ := ite_n h
  cases h
  rw [Bool.and_eq_true] at hc
  obtain ⟨⟨h1, h2⟩, h3, h4⟩ := And.intro (okL_iff.1 hc.1) (okL_iff.1 hc.2)
  have := lowest_fn (b := a.2) h1 h3 h2 h4 (by decide)
  rw [lowN_res, resQ_D] at this
  exact this

def ratLess (a : (List Nat × List Nat) × Bool) : Option ((List Nat × List Nat) × Bool) := if True then some ((a.1, !a.2)) else none
theorem ratLess_ok {a : (List Nat × List Nat) × Bool} {r : (List Nat × List Nat) × Bool} (h : ratLess a = some r) : Fn Tryz.prog 67 [.ag [.sl (L a.1.1), .sl (L a.1.2), .b a.2]] (.d (.ag [.sl (L r.1.1), .sl (L r.1.2), .b r.2])) := by
  obtain ⟨hc, h⟩ := ite_n h
  cases h
  exact less_fn _ _ _

def ratPlus (a : (List Nat × List Nat) × Bool) (b : (List Nat × List Nat) × Bool) : Option ((List Nat × List Nat) × Bool) := if (okL 4000 a.1.1 && okL 4000 a.1.2 && (okL 4000 b.1.1 && okL 4000 b.1.2)) = true then some (qN (plusN (numQ a) (numQ b))) else none
theorem ratPlus_ok {a : (List Nat × List Nat) × Bool} {b : (List Nat × List Nat) × Bool} {r : (List Nat × List Nat) × Bool} (h : ratPlus a b = some r) : Fn Tryz.prog 66 [.ag [.sl (L a.1.1), .sl (L a.1.2), .b a.2], .ag [.sl (L b.1.1), .sl (L b.1.2), .b b.2]] (.d (.ag [.sl (L r.1.1), .sl (L r.1.2), .b r.2])) := by
  obtain ⟨hc, h⟩ := ite_n h
  cases h
  simp only [Bool.and_eq_true, okL_iff] at hc
  obtain ⟨⟨⟨h1, h2⟩, h3, h4⟩, ⟨h5, h6⟩, h7, h8⟩ := hc
  exact plus_fn h1 h3 h5 h7 h2 h4 h6 h8

def ratTimes (a : (List Nat × List Nat) × Bool) (b : (List Nat × List Nat) × Bool) : Option ((List Nat × List Nat) × Bool) := if (okL 4000 a.1.1 && okL 4000 a.1.2 && (okL 4000 b.1.1 && okL 4000 b.1.2)) = true then some (qN (timesN (numQ a) (numQ b))) else none
theorem ratTimes_ok {a : (List Nat × List Nat) × Bool} {b : (List Nat × List Nat) × Bool} {r : (List Nat × List Nat) × Bool} (h : ratTimes a b = some r) : Fn Tryz.prog 62 [.ag [.sl (L a.1.1), .sl (L a.1.2), .b a.2], .ag [.sl (L b.1.1), .sl (L b.1.2), .b b.2]] (.d (.ag [.sl (L r.1.1), .sl (L r.1.2), .b r.2])) := by
  obtain ⟨hc, h⟩ := ite_n h
  cases h
  simp only [Bool.and_eq_true, okL_iff] at hc
  obtain ⟨⟨⟨h1, h2⟩, h3, h4⟩, ⟨h5, h6⟩, h7, h8⟩ := hc
  exact times_fn h1 h3 h5 h7 h2 h4 h6 h8

def sEqualL (a : List Nat) (b : List Nat) : Option (Bool) := if (okL 1048576 a && okL 35184372087808 b) = true then some (decide (a = b)) else none
theorem sEqualL_ok {a : List Nat} {b : List Nat} {r : Bool} (h : sEqualL a b = some r) : Fn Tryz.prog 33 [.sl (L a), .sl (L b)] (.d (.b r)) := by
  obtain ⟨hc, h⟩ := ite_n h
  cases h
  simp only [Bool.and_eq_true, okL_iff] at hc
  exact Equal_fn a b hc.1.2 hc.1.1 hc.2.1

def sCloneL (a : List Nat) : Option (List Nat) := if a.length ≤ 35184372087808 then some (a) else none
theorem sCloneL_ok {a : List Nat} {r : List Nat} (h : sCloneL a = some r) : Fn Tryz.prog 60 [.sl (L a)] (.own 40 (L r)) := by
  obtain ⟨hc, h⟩ := ite_n h
  cases h
  exact clone_fn _ hc

def ratRight (a : RT) : Option (Bool) := if okRB a = true then some (rightR a) else none
theorem ratRight_ok {a : RT} {r : Bool} (h : ratRight a = some r) : Fn Tryz.prog 29 [.ag [.b a.1, .sl (L a.2.1), .sl (L a.2.2)]] (.d (.b r)) := by
  obtain ⟨hc, h⟩ := ite_n h
  cases h
  obtain ⟨h1, h2, h3, h4⟩ := okRB_iff.1 hc
  exact RRight_fn h1 h2 h3 h4

def ref2Right (a : RT) : Option (Bool) := if okRB a = true then some (rightR a) else none
theorem ref2Right_ok {a : RT} {r : Bool} (h : ref2Right a = some r) : Fn Tryz.prog 20 [.ag [.b a.1, .sl (L a.2.1), .sl (L a.2.2)]] (.d (.b r)) := by
  obtain ⟨hc, h⟩ := ite_n h
  cases h
  obtain ⟨h1, h2, h3, h4⟩ := okRB_iff.1 hc
  exact refRR_fn h1 h2 h3 h4

def ratAllRight (rs : List RT) : Option (Bool) := if (rs.all okRB && decide (rs.length ≤ 1048576)) = true then some (rs.all rightR) else none
theorem ratAllRight_ok {rs : List RT} {r : Bool} (h : ratAllRight rs = some r) : Fn Tryz.prog 14 [.sl (RVs rs)] (.d (.b r)) := by
  obtain ⟨hc, h⟩ := ite_n h
  cases h
  rw [Bool.and_eq_true, decide_eq_true_eq] at hc
  exact right_fn (okRB_all hc.1) hc.2

def ratMake (b : Bool) (n : List Nat) (d : List Nat) : Option (RT × Int) := if (okL 100000 n && okL 100000 d) = true then some (resQ (makeE b (val n) (val d))) else none
theorem ratMake_ok {b : Bool} {n : List Nat} {d : List Nat} {r : RT × Int} (h : ratMake b n d = some r) : Fn Tryz.prog 75 [.b b, .sl (L n), .sl (L d)] (.tup [.d (.ag [.b r.1.1, .sl (L r.1.2.1), .sl (L r.1.2.2)]), .d (.i .i64 r.2)]) := by
  obtain ⟨hc, h⟩ := ite_n h
  cases h
  simp only [Bool.and_eq_true, okL_iff] at hc
  have := Make_fn (b := b) hc.1.1 hc.2.1 hc.1.2 hc.2.2 (by decide)
  rw [makeN_res, resQ_D] at this
  exact this

def ref2Make (b : Bool) (n : List Nat) (d : List Nat) : Option (RT × Int) := if (okL 100000 n && okL 100000 d) = true then some (resQ (makeE b (val n) (val d))) else none
theorem ref2Make_ok {b : Bool} {n : List Nat} {d : List Nat} {r : RT × Int} (h : ref2Make b n d = some r) : Fn Tryz.prog 51 [.b b, .sl (L n), .sl (L d)] (.tup [.d (.ag [.b r.1.1, .sl (L r.1.2.1), .sl (L r.1.2.2)]), .d (.i .i64 r.2)]) := by
  obtain ⟨hc, h⟩ := ite_n h
  cases h
  simp only [Bool.and_eq_true, okL_iff] at hc
  have := refMake_fn (b := b) hc.1.1 hc.2.1 hc.1.2 hc.2.2 (by decide)
  rw [makeN_res, resQ_D] at this
  exact this

def ref2Same (a : RT) (b : RT) : Option (Bool) := if (decide (a.2.1.length ≤ 35184372087808) && decide (a.2.2.length ≤ 35184372087808)) = true then some (decide (a = b)) else none
theorem ref2Same_ok {a : RT} {b : RT} {r : Bool} (h : ref2Same a b = some r) : Fn Tryz.prog 30 [.ag [.b a.1, .sl (L a.2.1), .sl (L a.2.2)], .ag [.b b.1, .sl (L b.2.1), .sl (L b.2.2)]] (.d (.b r)) := by
  obtain ⟨hc, h⟩ := ite_n h
  cases h
  simp only [Bool.and_eq_true, decide_eq_true_eq] at hc
  have := refSame_fn a.1 b.1 a.2.1 a.2.2 b.2.1 b.2.2 hc.1 hc.2
  rw [decide_eq_decide.2 (show (a.1 = b.1 ∧ a.2.1 = b.2.1 ∧ a.2.2 = b.2.2) ↔ a = b by
    obtain ⟨a1, a2, a3⟩ := a; obtain ⟨b1, b2, b3⟩ := b; simp)] at this
  exact this

def ratOfInt (z : Int) : Option (RT) := if -9223372036854775808 ≤ z ∧ z ≤ 9223372036854775807 then some ((decide (z < 0), digs z.natAbs, [1])) else none
theorem ratOfInt_ok {z : Int} {r : RT} (h : ratOfInt z = some r) : Fn Tryz.prog 32 [.i .i64 z] (.d (.ag [.b r.1, .sl (L r.2.1), .sl (L r.2.2)])) := by
  obtain ⟨hc, h⟩ := ite_n h
  cases h
  exact OfInt_fn hc.1 hc.2

def ref2Zero : Option (RT) := if True then some ((false, [], [1])) else none
theorem ref2Zero_ok {r : RT} (h : ref2Zero = some r) : Fn Tryz.prog 39 [] (.d (.ag [.b r.1, .sl (L r.2.1), .sl (L r.2.2)])) := by
  obtain ⟨hc, h⟩ := ite_n h
  cases h
  exact refZero_fn

def ratMul (rs : List RT) : Option (RT × Int) := if (rs.all okRB && decide (rs.length ≤ 1048576)) = true then some (resQ (mulE rs)) else none
theorem ratMul_ok {rs : List RT} {r : RT × Int} (h : ratMul rs = some r) : Fn Tryz.prog 18 [.sl (RVs rs)] (.tup [.d (.ag [.b r.1.1, .sl (L r.1.2.1), .sl (L r.1.2.2)]), .d (.i .i64 r.2)]) := by
  obtain ⟨hc, h⟩ := ite_n h
  cases h
  rw [Bool.and_eq_true, decide_eq_true_eq] at hc
  have := RMul_fn (okRB_all hc.1) hc.2
  rw [resQ_D] at this
  exact this

def r1Mul (a : List Nat) (b : List Nat) : Option (List Nat) := if (okL 400000 a && okL 400000 b) = true then some (digs (val a * val b)) else none
theorem r1Mul_ok {a : List Nat} {b : List Nat} {r : List Nat} (h : r1Mul a b = some r) : Fn Tryz.prog 49 [.sl (L a), .sl (L b)] (.own 40 (L r)) := by
  obtain ⟨hc, h⟩ := ite_n h
  cases h
  rw [Bool.and_eq_true] at hc
  obtain ⟨⟨h1, h2⟩, h3, h4⟩ := And.intro (okL_iff.1 hc.1) (okL_iff.1 hc.2)
  exact Mul_fn h1 h3 (by omega) (by omega)

def r1Add (a : List Nat) (b : List Nat) : Option (List Nat) := if (okL 500000 a && okL 500000 b) = true then some (digs (val a + val b)) else none
theorem r1Add_ok {a : List Nat} {b : List Nat} {r : List Nat} (h : r1Add a b = some r) : Fn Tryz.prog 56 [.sl (L a), .sl (L b)] (.own 40 (L r)) := by
  obtain ⟨hc, h⟩ := ite_n h
  cases h
  rw [Bool.and_eq_true] at hc
  obtain ⟨⟨h1, h2⟩, h3, h4⟩ := And.intro (okL_iff.1 hc.1) (okL_iff.1 hc.2)
  exact Add_fn h1 h3 (by omega) (by omega)

def r1Compare (a : List Nat) (b : List Nat) : Option (Int) := if (okL 35184372087808 a && okL 35184372087808 b) = true then some (cmpN (val a) (val b)) else none
theorem r1Compare_ok {a : List Nat} {b : List Nat} {r : Int} (h : r1Compare a b = some r) : Fn Tryz.prog 55 [.sl (L a), .sl (L b)] (.d (.i .i64 r)) := by
  obtain ⟨hc, h⟩ := ite_n h
  cases h
  rw [Bool.and_eq_true] at hc
  obtain ⟨⟨h1, h2⟩, h3, h4⟩ := And.intro (okL_iff.1 hc.1) (okL_iff.1 hc.2)
  exact refCompare_fn h1 h3 (by omega) (by omega)

def r1Minus (a : List Nat) (b : List Nat) : Option (List Nat × Bool) := if (okL 500000 a && okL 500000 b) = true then some ((digs (minN (val a) (val b)), decide (val b ≤ val a))) else none
theorem r1Minus_ok {a : List Nat} {b : List Nat} {r : List Nat × Bool} (h : r1Minus a b = some r) : Fn Tryz.prog 54 [.sl (L a), .sl (L b)] (.tup [.d (.sl (L r.1)), .d (.b r.2)]) := by
  obtain ⟨hc, h⟩ := ite_n h
  cases h
  rw [Bool.and_eq_true] at hc
  obtain ⟨⟨h1, h2⟩, h3, h4⟩ := And.intro (okL_iff.1 hc.1) (okL_iff.1 hc.2)
  exact refMinus_fn h1 h3 (by omega) (by omega)

def r1DivMod (a : List Nat) (b : List Nat) : Option (List Nat × List Nat × Bool) := if (okL 100000 a && okL 100000 b) = true then some ((digs (val a / val b), digs (remN (val a) (val b)), decide (val b ≠ 0))) else none
theorem r1DivMod_ok {a : List Nat} {b : List Nat} {r : List Nat × List Nat × Bool} (h : r1DivMod a b = some r) : Fn Tryz.prog 57 [.sl (L a), .sl (L b)] (.tup [.d (.sl (L r.1)), .d (.sl (L r.2.1)), .d (.b r.2.2)]) := by
  obtain ⟨hc, h⟩ := ite_n h
  cases h
  rw [Bool.and_eq_true] at hc
  obtain ⟨⟨h1, h2⟩, h3, h4⟩ := And.intro (okL_iff.1 hc.1) (okL_iff.1 hc.2)
  exact refDivMod_fn h1 h3 (by omega) (by omega)

def r1Trim (a : List Nat) : Option (List Nat) := if okL 35184372087808 a = true then some (digs (val a)) else none
theorem r1Trim_ok {a : List Nat} {r : List Nat} (h : r1Trim a = some r) : Fn Tryz.prog 70 [.sl (L a)] (.own 40 (L r)) := by
  obtain ⟨hc, h⟩ := ite_n h
  cases h
  obtain ⟨h1, h2⟩ := okL_iff.1 hc
  exact refTrim_fn h1 (by omega)

def r1Of (n : Int) : Option (List Nat) := if 0 ≤ n ∧ n < 18446744073709551616 then some (digs n.toNat) else none
theorem r1Of_ok {n : Int} {r : List Nat} (h : r1Of n = some r) : Fn Tryz.prog 50 [.i .u64 n] (.own 40 (L r)) := by
  obtain ⟨hc, h⟩ := ite_n h
  cases h
  have := refOf_fn (n := n.toNat) (by omega)
  rw [Int.toNat_of_nonneg hc.1] at this
  exact this

def r1Same (a : List Nat) (b : List Nat) : Option (Bool) := if a.length ≤ 35184372087808 then some (decide (a = b)) else none
theorem r1Same_ok {a : List Nat} {b : List Nat} {r : Bool} (h : r1Same a b = some r) : Fn Tryz.prog 40 [.sl (L a), .sl (L b)] (.d (.b r)) := by
  obtain ⟨hc, h⟩ := ite_n h
  cases h
  exact Same_fn a b hc

def r1Small (a : List Nat) : Option (Int × Bool) := if okL 1048576 a = true then some (((smallN a : Nat), decide (bitsN (val a) ≤ 63))) else none
theorem r1Small_ok {a : List Nat} {r : Int × Bool} (h : r1Small a = some r) : Fn Tryz.prog 42 [.sl (L a)] (.tup [.d (.i .i64 r.1), .d (.b r.2)]) := by
  obtain ⟨hc, h⟩ := ite_n h
  cases h
  obtain ⟨h1, h2⟩ := okL_iff.1 hc
  exact refSmall_fn h1 (by omega)

end Go.FL
/-
  Arguments that are numbers, opened.
-/
namespace Go.FL
open Go Go.Proofs

section
variable {H : Type} {enc : TypeId × Value → H} {W : World}
theorem op_limbs0 {n : Nat} : OpF enc Tryz.prog W (n + 1) 22 (fun a : List Nat => [.sl (L a)]) (fun a => okL 35184372087808 a = true) := by
  refine (op_slice (α := Int) (F := fun z => [.i .u32 z]) (sz := 1) (fun z => .i .u32 z) (by kernel_rfl : Tryz.prog.underlying 22 = some (.slice 40)) (by kernel_rfl) (by decide) (fun _ => rfl) (op_int (by kernel_rfl))).map fun zs hz => ?_
  obtain ⟨a, h1, h2⟩ := as_limbs zs hz.1
  refine ⟨a, okL_iff.2 ⟨h1, ?_⟩, by rw [← h2]⟩
  have h3 := hz.2
  rw [show Tryz.prog.bytesOf 40 = 4 by kernel_rfl, show reachBytes = 140737488351232 by decide] at h3
  have := congrArg List.length h2
  rw [List.length_map, L_length] at this
  omega
theorem op_limbs (n : Nat) : OpF enc Tryz.prog W n 22 (fun a : List Nat => [.sl (L a)]) (fun a => okL 35184372087808 a = true) := op_limbs0.mono (Nat.le_succ n)
theorem op_rat (n : Nat) : OpF enc Tryz.prog W n 24 (fun r : RT => [.b r.1, .sl (L r.2.1), .sl (L r.2.2)]) (fun r => okRB r = true) := by
  refine OpF.mono (n := n + 1) ((op_struct3 (t := 24) (T0 := 4) (T1 := 22) (T2 := 22) (s0 := 1) (s1 := 1) (s2 := 1) (by kernel_rfl) (by kernel_rfl) (by kernel_rfl) (op_bool (by kernel_rfl)) (by kernel_rfl) (op_limbs n) (by kernel_rfl) (op_limbs n)).map fun r hr => ?_) (Nat.le_succ n)
  exact ⟨r, by rw [okRB, hr.2.1, hr.2.2]; rfl, rfl⟩
end
end Go.FL
/-
  Plain laws, rat 1: right numbers are the rationals that fit.
-/
namespace Go.FL
open Go Go.Proofs

abbrev sg (b : Bool) (n : Nat) : Int := if b = true then -(n : Int) else n
def ofQ (p : Rat) : RT := (decide (p.num < 0), digs p.num.natAbs, digs p.den)
def small (n : Nat) : Prop := (digs n).length ≤ 32
instance (n : Nat) : Decidable (small n) := inferInstanceAs (Decidable (_ ≤ _))
def fits (p : Rat) : Prop := small p.num.natAbs ∧ small p.den
instance (p : Rat) : Decidable (fits p) := inferInstanceAs (Decidable (_ ∧ _))
abbrev bad (e : Int) : RT × Int := ((false, [], []), e)
def resR (p : Rat) : RT × Int := if fits p then (ofQ p, 0) else bad 8
theorem sg_natAbs (b : Bool) (n : Nat) : (sg b n).natAbs = n := by cases b <;> simp [sg]
theorem sg_neg (b : Bool) (n : Nat) : decide (sg b n < 0) = (b && decide (n ≠ 0)) := by
  cases b with
  | false => simp [sg]
  | true => simp only [sg, if_true, Bool.true_and]; apply decide_eq_decide.2; omega
theorem digs_inj {m n : Nat} (h : digs m = digs n) : m = n := by rw [← val_digs m, h, val_digs]
/-- A rational, as its parts. -/
abbrev q3 (p : Rat) : Q3 := (decide (p.num < 0), p.num.natAbs, p.den)
def lowR (p : Rat) : QE := if fits p then .ok (q3 p) else .error 8
theorem resQ_lowR (p : Rat) : resQ (lowR p) = resR p := by
  unfold lowR resR
  split <;> rfl
theorem lowE_rat {b : Bool} {n d : Nat} (hd : d ≠ 0) : lowE b n d = lowR (mkRat (sg b n) d) := by
  have hg : Nat.gcd n d ≠ 0 := fun h => hd (Nat.eq_zero_of_gcd_eq_zero_right h)
  have hnum : (mkRat (sg b n) d).num = sg b (n / Nat.gcd n d) := by
    rw [Rat.num_mkRat, if_neg hd, sg_natAbs, Nat.gcd_comm]
    cases b with
    | false => simp [sg]
    | true =>
      simp only [sg, if_true]
      rw [Int.neg_ediv_of_dvd (Int.natCast_dvd_natCast.2 (Nat.gcd_dvd_left n d))]
      simp
  have hden : (mkRat (sg b n) d).den = d / Nat.gcd n d := by
    rw [Rat.den_mkRat, if_neg hd, sg_natAbs, Nat.gcd_comm]
  have hd' : 32 < (digs (d / Nat.gcd n d)).length ↔ ¬ small (d / Nat.gcd n d) := by simp only [small]; omega
  have hn' : 32 < (digs (n / Nat.gcd n d)).length ↔ ¬ small (n / Nat.gcd n d) := by simp only [small]; omega
  have hf : fits (mkRat (sg b n) d) ↔ small (n / Nat.gcd n d) ∧ small (d / Nat.gcd n d) := by
    simp only [fits, hnum, hden, sg_natAbs]
  unfold lowE lowR
  rw [if_neg hg]
  by_cases h : small (n / Nat.gcd n d) ∧ small (d / Nat.gcd n d)
  · rw [if_neg (by rw [hn', hd']; intro h2; exact h2.elim (fun a => a h.1) (fun a => a h.2)), if_pos (hf.2 h)]
    simp only [q3, hnum, sg_natAbs, hden, sg_neg]
  · rw [if_pos (by rw [hn', hd']; by_cases h1 : small (n / Nat.gcd n d); exact .inr (fun h2 => h ⟨h1, h2⟩); exact .inl h1), if_neg (fun h2 => h (hf.1 h2))]
theorem right_iff {r : RT} : rightR r = true ↔ ∃ p, fits p ∧ r = ofQ p := by
  obtain ⟨b, n, d⟩ := r
  simp only [rightR, rightL, decide_eq_true_eq]
  constructor
  · rintro ⟨h1, h2, h3, h4, h5, h6, h7⟩
    have hd0 : val d ≠ 0 := fun h => h5 (by rw [← h2, h, digs_zero])
    refine ⟨⟨sg b (val n), val d, hd0, by rw [Nat.Coprime, sg_natAbs]; exact h7⟩, ⟨?_, ?_⟩, ?_⟩
    · show small (sg b (val n)).natAbs
      rw [sg_natAbs, small, h1]; exact h3
    · show small (val d)
      rw [small, h2]; exact h4
    · simp only [ofQ, sg_natAbs, h1, h2]
      rw [sg_neg]
      congr 1
      cases b with
      | false => rfl
      | true =>
        have : n ≠ [] := fun h => by have := h6 h; cases this
        have hn0 : val n ≠ 0 := fun h => this (by rw [← h1, h, digs_zero])
        simp [hn0]
  · rintro ⟨p, ⟨h1, h2⟩, h⟩
    simp only [ofQ, Prod.mk.injEq] at h
    obtain ⟨rfl, rfl, rfl⟩ := h
    refine ⟨by rw [val_digs], by rw [val_digs], h1, h2, ?_, ?_, ?_⟩
    · intro h
      have := digs_nil_iff.1 h
      exact p.den_nz this
    · intro h
      have := digs_nil_iff.1 h
      exact decide_eq_false (by omega)
    · rw [val_digs, val_digs]; exact p.reduced
theorem ofQ_right {p : Rat} (h : fits p) : rightR (ofQ p) = true := right_iff.2 ⟨p, h, rfl⟩
theorem okL_digs {k n : Nat} (h : (digs n).length ≤ k) : okL k (digs n) = true := okL_iff.2 ⟨digs_ok n, h⟩
theorem small_ok {k n : Nat} (h : small n) (hk : 32 ≤ k) : okL k (digs n) = true := okL_digs (Nat.le_trans h hk)
theorem ofQ_okRB {p : Rat} (h : fits p) : okRB (ofQ p) = true := by
  simp only [okRB, Bool.and_eq_true]
  exact ⟨small_ok h.1 (by decide), small_ok h.2 (by decide)⟩
/-- A number that comes as it may: not right, or a rational. -/
theorem right_cases {r : RT} : rightR r = false ∨ ∃ p, fits p ∧ r = ofQ p := by
  by_cases h : rightR r = true
  · exact .inr (right_iff.1 h)
  · exact .inl (by simpa using h)
theorem fits_zero : fits 0 := by
  have e0 : digs 0 = [] := digs_zero
  have e1 : digs 1 = [1] := one_limb (n := 1) (by decide) (by decide)
  constructor
  · show (digs 0).length ≤ 32; rw [e0]; decide
  · show (digs 1).length ≤ 32; rw [e1]; decide
theorem one_digs : digs 1 = [1] := one_limb (n := 1) (by decide) (by decide)
theorem ofQ_zero : ofQ 0 = (false, [], [1]) := by
  show (decide ((0 : Int) < 0), digs 0, digs 1) = _
  rw [digs_zero, one_digs]; rfl
theorem resR_fits {p : Rat} (h : fits p) : resR p = (ofQ p, 0) := if_pos h
theorem resR_not {p : Rat} (h : ¬ fits p) : resR p = bad 8 := if_neg h
/-- What a number, as it comes, is worth. -/
abbrev valQ (q : Q3) : Rat := mkRat (sg q.1 q.2.1) q.2.2
theorem mkRat_eq {a c : Int} {b d : Nat} (hb : b ≠ 0) (hd : d ≠ 0) (h : a * d = c * b) : mkRat a b = mkRat c d := (Rat.mkRat_eq_iff hb hd).2 h
theorem plusN_rat {x y : Q3} (hx : x.2.2 ≠ 0) (hy : y.2.2 ≠ 0) : valQ (plusN x y) = valQ x + valQ y ∧ (plusN x y).2.2 ≠ 0 := by
  obtain ⟨b, n, d⟩ := x
  obtain ⟨c, m, e⟩ := y
  simp only at hx hy
  have hde : d * e ≠ 0 := Nat.mul_ne_zero hx hy
  rw [show valQ (b, n, d) + valQ (c, m, e) = mkRat (sg b n * e + sg c m * d) (d * e) from Rat.mkRat_add_mkRat _ _ hx hy]
  have key : ∀ (q : Q3), q.2.2 = d * e → sg q.1 q.2.1 = sg b n * e + sg c m * d → valQ q = mkRat (sg b n * e + sg c m * d) (d * e) ∧ q.2.2 ≠ 0 := fun q h1 h2 => by
    rw [valQ, h1, h2]; exact ⟨rfl, hde⟩
  unfold plusN
  simp only
  split
  · rename_i h
    subst h
    refine key _ rfl ?_
    cases b <;> simp [sg]
    rw [Int.neg_add, Int.neg_mul, Int.neg_mul]
  · rename_i h
    split
    · rename_i h2
      refine key _ rfl ?_
      cases b <;> cases c <;> simp [sg] at h ⊢
      · rw [Int.ofNat_sub h2]; simp [Int.neg_mul]; omega
      · rw [Int.ofNat_sub h2]; simp [Int.neg_mul]; omega
    · rename_i h2
      have h3 : n * e ≤ m * d := by omega
      refine key _ rfl ?_
      cases b <;> cases c <;> simp [sg] at h ⊢
      · rw [Int.ofNat_sub h3]; simp [Int.neg_mul]; omega
      · rw [Int.ofNat_sub h3]; simp [Int.neg_mul]; omega
theorem timesN_rat {x y : Q3} (hx : x.2.2 ≠ 0) (hy : y.2.2 ≠ 0) : valQ (timesN x y) = valQ x * valQ y ∧ (timesN x y).2.2 ≠ 0 := by
  obtain ⟨b, n, d⟩ := x
  obtain ⟨c, m, e⟩ := y
  refine ⟨?_, Nat.mul_ne_zero hx hy⟩
  rw [show valQ (b, n, d) * valQ (c, m, e) = mkRat (sg b n * sg c m) (d * e) from Rat.mkRat_mul_mkRat _ _ _ _]
  have h : sg (b != c) (n * m) = sg b n * sg c m := by cases b <;> cases c <;> simp [sg, Int.neg_mul, Int.mul_neg]
  simp only [timesN, valQ, h]
theorem valQ_of (p : Rat) : valQ (decide (p.num < 0), p.num.natAbs, p.den) = p := by
  have : sg (decide (p.num < 0)) p.num.natAbs = p.num := by
    simp only [sg, decide_eq_true_eq]
    split <;> omega
  rw [valQ, this, Rat.mkRat_self]
theorem rq_of (p : Rat) : rq (ofQ p) = (decide (p.num < 0), p.num.natAbs, p.den) := by simp [rq, ofQ, val_digs]
end Go.FL
/-
  GP: rat: differences, quotients, rounding.
-/
namespace Go.FL
open Go Go.Proofs

def rat_Sub (a0 : RT) (a1 : RT) : Option (RT × Int) := ((ratAllRight ([a0, a1])).bind fun x1 => (if x1 = true then ((ratOf a0).bind fun x2 => ((ratOf a1).bind fun x3 => ((ratLess x3).bind fun x4 => ((ratPlus x2 x4).bind fun x5 => ((ratLowest x5).bind fun x6 => (some (x6.1, x6.2))))))) else (some ((false, [], []), 22))))
theorem rat_Sub_ok {a0 : RT} {a1 : RT} {r : RT × Int} (h : rat_Sub a0 a1 = some r) :
    Fn Tryz.prog 19 [.ag [.b a0.1, .sl (L a0.2.1), .sl (L a0.2.2)], .ag [.b a1.1, .sl (L a1.2.1), .sl (L a1.2.2)]] (.tup [.d (.ag [.b r.1.1, .sl (L r.1.2.1), .sl (L r.1.2.2)]), .d (.i .i64 r.2)]) := by
  unfold rat_Sub at h
  refine Fn.ofC (rs := [.cell 4 24, .tmp 5]) (nt := 21) Tryz.func19 rfl rfl rfl (by simp) rfl ?_
  refine .seq ?_
  refine .region ?_
  refine vk (vbx) ?_
  refine vk (vbx) ?_
  refine vk (van (zero_of gI_R) gZ_R) ?_
  refine asd ?_
  refine rn ?_
  refine .gh (Gh.keep [2, 3, 4, 5] rfl) ?_
  refine .seq ?_
  refine .seq ?_
  refine .region ?_
  refine vk (vlda gA_R gS_R) ?_
  refine vk (vlda gA_R gS_R) ?_
  refine vk ((vbsl (RVs_flat [a0, a1]) ge_RVs).deep) ?_
  obtain ⟨x1, hx1, h⟩ := bnd h
  refine vk (vcl0 (ratAllRight_ok hx1) Tryz.call14) ?_
  refine vk (vnt) ?_
  refine rn ?_
  refine .gh (Gh.keep [2, 3, 4, 5, 10] rfl) ?_
  by_cases hc : x1 = true
  · replace h := ite_t hc h
    refine cnf (ntf hc) ?_
    refine .skip ?_
    show AW _ _ _ _ _ _
    refine .seq ?_
    refine .drawn 9 mixed (by kernel_rfl) ?_
    refine dv (vlda gA_R gS_R) ?_
    obtain ⟨x2, hx2, h⟩ := bnd h
    refine dv (vcl0 (ratOf_ok hx2) Tryz.call61) ?_
    refine dv (vlda gA_R gS_R) ?_
    obtain ⟨x3, hx3, h⟩ := bnd h
    refine dv (vcl0 (ratOf_ok hx3) Tryz.call61) ?_
    obtain ⟨x4, hx4, h⟩ := bnd h
    refine dv (vcl0 (ratLess_ok hx4) Tryz.call67) ?_
    obtain ⟨x5, hx5, h⟩ := bnd h
    refine dv (vcl0 (ratPlus_ok hx5) Tryz.call66) ?_
    obtain ⟨x6, hx6, h⟩ := bnd h
    refine dv (VOK.tupd (vs := [.ag [.b x6.1.1, .sl (L x6.1.2.1), .sl (L x6.1.2.2)], .i .i64 x6.2]) (vcl0 (ratLowest_ok hx6) Tryz.call63)) ?_
    refine dv (vex) ?_
    refine dv (vex) ?_
    refine dz ?_
    refine stn ?_ gS_R (by decide)
    refine asd ?_
    refine rn ?_
    refine .gh (Gh.keep [4, 5] rfl) ?_
    refine .ret ?_
    cases h
    exact ⟨_, _, ⟨.inr rfl, gA_R, gS_R, (by decide : (0 : Nat) < 3)⟩, rfl, rfl⟩
  replace h := ite_f hc h
  refine cnt (ntt (bf hc)) ?_
  refine .seq ?_
  refine .region ?_
  refine vk (vbd gP_R gI_R gZ_R) ?_
  refine stn ?_ gS_R (by decide)
  refine asd ?_
  refine rn ?_
  refine .gh (Gh.keep [2, 3, 4, 5] rfl) ?_
  refine .ret ?_
  cases h
  exact ⟨_, _, ⟨.inr rfl, gA_R, gS_R, (by decide : (0 : Nat) < 3)⟩, rfl, rfl⟩

def rat_Div (a0 : RT) (a1 : RT) : Option (RT × Int) := ((ratAllRight ([a0, a1])).bind fun x1 => (if x1 = true then (if 0 < ((List.length a1.2.1 : Nat) : Int) then ((ratOf a0).bind fun x2 => ((ratTimes x2 ((a1.2.2, a1.2.1), a1.1)).bind fun x3 => ((ratLowest x3).bind fun x4 => (some (x4.1, x4.2))))) else (if 0 < ((List.length a0.2.1 : Nat) : Int) then (some ((false, [], []), 3)) else ((ratOfInt 1).bind fun x5 => (some (x5, 0))))) else (some ((false, [], []), 22))))
theorem rat_Div_ok {a0 : RT} {a1 : RT} {r : RT × Int} (h : rat_Div a0 a1 = some r) :
    Fn Tryz.prog 16 [.ag [.b a0.1, .sl (L a0.2.1), .sl (L a0.2.2)], .ag [.b a1.1, .sl (L a1.2.1), .sl (L a1.2.2)]] (.tup [.d (.ag [.b r.1.1, .sl (L r.1.2.1), .sl (L r.1.2.2)]), .d (.i .i64 r.2)]) := by
  unfold rat_Div at h
  refine Fn.ofC (rs := [.cell 4 24, .tmp 5]) (nt := 39) Tryz.func16 rfl rfl rfl (by simp) rfl ?_
  refine .seq ?_
  refine .region ?_
  refine vk (vbx) ?_
  refine vk (vbx) ?_
  refine vk (van (zero_of gI_R) gZ_R) ?_
  refine asd ?_
  refine rn ?_
  refine .gh (Gh.keep [2, 3, 4, 5] rfl) ?_
  refine .seq ?_
  refine .block ?_
  refine .seq ?_
  refine .region ?_
  refine vk (vlda gA_R gS_R) ?_
  refine vk (vlda gA_R gS_R) ?_
  refine vk ((vbsl (RVs_flat [a0, a1]) ge_RVs).deep) ?_
  obtain ⟨x1, hx1, h⟩ := bnd h
  refine vk (vcl0 (ratAllRight_ok hx1) Tryz.call14) ?_
  refine vk (vnt) ?_
  refine asd ?_
  refine rn ?_
  refine .gh (Gh.keep [2, 3, 4, 5, 6] rfl) ?_
  by_cases hc : x1 = true
  · replace h := ite_t hc h
    refine cnf (ntf hc) ?_
    refine .seq ?_
    refine .region ?_
    refine vk (vfa gF_R_1) ?_
    refine vk (vldp ga_L) ?_
    refine vk (vlnE (L_length _) (L_sz _) gu_L) ?_
    refine vk (vbi) ?_
    refine asd ?_
    refine rn ?_
    refine .gh (Gh.keep [2, 3, 4, 5, 13] rfl) ?_
    by_cases hc : 0 < ((List.length a1.2.1 : Nat) : Int)
    · replace h := ite_t hc h
      refine cnt (decide_eq_true hc) ?_
      refine .seq ?_
      refine .drawn 14 mixed (by kernel_rfl) ?_
      refine dv (vlda gA_R gS_R) ?_
      obtain ⟨x2, hx2, h⟩ := bnd h
      refine dv (vcl0 (ratOf_ok hx2) Tryz.call61) ?_
      refine dv (vfa gF_R_2) ?_
      refine dv (vldp ga_L) ?_
      refine dv (vfa gF_R_1) ?_
      refine dv (vldp ga_L) ?_
      refine dv (vbd gP_Z gI_Z gZ_Z) ?_
      refine dv (vfa gF_R_0) ?_
      refine dv (vldp ga_bool) ?_
      refine dv (vbd gP_N gI_N gZ_N) ?_
      obtain ⟨x3, hx3, h⟩ := bnd h
      refine dv (vcl0 (ratTimes_ok hx3) Tryz.call62) ?_
      obtain ⟨x4, hx4, h⟩ := bnd h
      refine dv (VOK.tupd (vs := [.ag [.b x4.1.1, .sl (L x4.1.2.1), .sl (L x4.1.2.2)], .i .i64 x4.2]) (vcl0 (ratLowest_ok hx4) Tryz.call63)) ?_
      refine dv (vex) ?_
      refine dv (vex) ?_
      refine dz ?_
      refine stn ?_ gS_R (by decide)
      refine asd ?_
      refine rn ?_
      refine .gh (Gh.keep [4, 5] rfl) ?_
      refine .ret ?_
      cases h
      exact ⟨_, _, ⟨.inr rfl, gA_R, gS_R, (by decide : (0 : Nat) < 3)⟩, rfl, rfl⟩
    replace h := ite_f hc h
    refine cnf (decide_eq_false hc) ?_
    refine .seq ?_
    refine .region ?_
    refine vk (vfa gF_R_1) ?_
    refine vk (vldp ga_L) ?_
    refine vk (vlnE (L_length _) (L_sz _) gu_L) ?_
    refine vk (vbi) ?_
    refine asd ?_
    refine rn ?_
    refine .gh (Gh.keep [4, 5, 32] rfl) ?_
    by_cases hc : 0 < ((List.length a0.2.1 : Nat) : Int)
    · replace h := ite_t hc h
      refine cnt (decide_eq_true hc) ?_
      refine .seq ?_
      refine .region ?_
      refine vk (vbd gP_R gI_R gZ_R) ?_
      refine stn ?_ gS_R (by decide)
      refine asd ?_
      refine rn ?_
      refine .gh (Gh.keep [4, 5] rfl) ?_
      refine .ret ?_
      cases h
      exact ⟨_, _, ⟨.inr rfl, gA_R, gS_R, (by decide : (0 : Nat) < 3)⟩, rfl, rfl⟩
    replace h := ite_f hc h
    refine cnf (decide_eq_false hc) ?_
    refine .skip ?_
    show AW _ _ _ _ _ _
    refine .seq ?_
    refine .region ?_
    obtain ⟨x5, hx5, h⟩ := bnd h
    refine vk (vcl0 (ratOfInt_ok hx5) Tryz.call32) ?_
    refine stn ?_ gS_R (by decide)
    refine asd ?_
    refine rn ?_
    refine .gh (Gh.keep [4, 5] rfl) ?_
    refine .ret ?_
    cases h
    exact ⟨_, _, ⟨.inr rfl, gA_R, gS_R, (by decide : (0 : Nat) < 3)⟩, rfl, rfl⟩
  replace h := ite_f hc h
  refine cnt (ntt (bf hc)) ?_
  refine .seq ?_
  refine .region ?_
  refine vk (vbd gP_R gI_R gZ_R) ?_
  refine stn ?_ gS_R (by decide)
  refine asd ?_
  refine rn ?_
  refine .gh (Gh.keep [4, 5] rfl) ?_
  refine .ret ?_
  cases h
  exact ⟨_, _, ⟨.inr rfl, gA_R, gS_R, (by decide : (0 : Nat) < 3)⟩, rfl, rfl⟩

def rat_copied (a0 : RT) (a1 : Bool) : Option (RT × Int) := ((ratRight a0).bind fun x1 => (if x1 = true then (Option.bind ((if a1 = true then ((sCloneL a0.2.1).bind fun x3 => ((sCloneL a0.2.2).bind fun x4 => (some ((decide (0 < ((List.length a0.2.1 : Nat) : Int))), x3, x4)))) else ((sCloneL a0.2.1).bind fun x5 => ((sCloneL a0.2.2).bind fun x6 => (some (false, x5, x6))))) : Option (RT)) fun (z2 : RT) => (some (z2, 0))) else (some ((false, [], []), 22))))
theorem rat_copied_ok {a0 : RT} {a1 : Bool} {r : RT × Int} (h : rat_copied a0 a1 = some r) :
    Fn Tryz.prog 15 [.ag [.b a0.1, .sl (L a0.2.1), .sl (L a0.2.2)], .b a1] (.tup [.d (.ag [.b r.1.1, .sl (L r.1.2.1), .sl (L r.1.2.2)]), .d (.i .i64 r.2)]) := by
  unfold rat_copied at h
  refine Fn.ofC (rs := [.cell 4 24, .tmp 5]) (nt := 24) Tryz.func15 rfl rfl rfl (by simp) rfl ?_
  refine .seq ?_
  refine .region ?_
  refine vk (vbx) ?_
  refine vk (van (zero_of gI_R) gZ_R) ?_
  refine asd ?_
  refine rn ?_
  refine .gh (Gh.keep [1, 2, 4, 5] rfl) ?_
  refine .seq ?_
  refine .seq ?_
  refine .region ?_
  refine vk (vlda gA_R gS_R) ?_
  obtain ⟨x1, hx1, h⟩ := bnd h
  refine vk (vcl0 (ratRight_ok hx1) Tryz.call29) ?_
  refine vk (vnt) ?_
  refine rn ?_
  refine .gh (Gh.keep [1, 2, 4, 5, 8] rfl) ?_
  by_cases hc : x1 = true
  · replace h := ite_t hc h
    refine cnf (ntf hc) ?_
    refine .skip ?_
    show AW _ _ _ _ _ _
    refine .seq ?_
    obtain ⟨z2, hz, h⟩ := bnd h
    refine AW.mr (σ := Unit) (fun _ => True) (fun _ => [(4, .nb [.b z2.1, .sl (L z2.2.1), .sl (L z2.2.2)]), (5, .d (.i .i64 0))]) (fun _ => []) ?_ ?_
    · skip
      refine .drawn 14 mixed (by kernel_rfl) ?_
      refine dv (vmvd) ?_
      by_cases hc : a1 = true
      · replace hz := ite_t hc hz
        have hb0 : a1 = true := hc
        refine dv (VOK.lit (vmvd) hb0) ?_
        refine dv (vfa gF_R_1) ?_
        refine dv (vldp ga_L) ?_
        refine dv (vlnE (L_length _) (L_sz _) gu_L) ?_
        refine dv (vbi) ?_
        refine dv (vpkd) ?_
        refine dv (vfa gF_R_1) ?_
        refine dv (vldp ga_L) ?_
        obtain ⟨x3, hx3, hz⟩ := bnd hz
        refine dv ((vcl0 (sCloneL_ok hx3) Tryz.call60).deep) ?_
        refine dv (vfa gF_R_2) ?_
        refine dv (vldp ga_L) ?_
        obtain ⟨x4, hx4, hz⟩ := bnd hz
        refine dv ((vcl0 (sCloneL_ok hx4) Tryz.call60).deep) ?_
        refine dv (vbd gP_R gI_R gZ_R) ?_
        refine dz ?_
        refine stn ?_ gS_R (by decide)
        refine asd ?_
        refine RL.gh (Gh.keep [4, 5] rfl) ?_
        refine .nil ?_
        cases hz
        exact jr () trivial
      replace hz := ite_f hc hz
      have hb0 : a1 = false := (bf hc)
      refine dv (VOK.lit (vmvd) hb0) ?_
      refine dgf ?_
      refine dgf ?_
      refine dgf ?_
      refine dgf ?_
      refine dv (vpkd) ?_
      refine dv (vfa gF_R_1) ?_
      refine dv (vldp ga_L) ?_
      obtain ⟨x5, hx5, hz⟩ := bnd hz
      refine dv ((vcl0 (sCloneL_ok hx5) Tryz.call60).deep) ?_
      refine dv (vfa gF_R_2) ?_
      refine dv (vldp ga_L) ?_
      obtain ⟨x6, hx6, hz⟩ := bnd hz
      refine dv ((vcl0 (sCloneL_ok hx6) Tryz.call60).deep) ?_
      refine dv (vbd gP_R gI_R gZ_R) ?_
      refine dz ?_
      refine stn ?_ gS_R (by decide)
      refine asd ?_
      refine RL.gh (Gh.keep [4, 5] rfl) ?_
      refine .nil ?_
      cases hz
      exact jr () trivial
    rintro _ _
    refine .ret ?_
    cases h
    exact ⟨_, _, ⟨.inr rfl, gA_R, gS_R, (by decide : (0 : Nat) < 3)⟩, rfl, rfl⟩
  replace h := ite_f hc h
  refine cnt (ntt (bf hc)) ?_
  refine .seq ?_
  refine .region ?_
  refine vk (vbd gP_R gI_R gZ_R) ?_
  refine stn ?_ gS_R (by decide)
  refine asd ?_
  refine rn ?_
  refine .gh (Gh.keep [1, 2, 4, 5] rfl) ?_
  refine .ret ?_
  cases h
  exact ⟨_, _, ⟨.inr rfl, gA_R, gS_R, (by decide : (0 : Nat) < 3)⟩, rfl, rfl⟩

def rat_whole (a0 : RT) (a1 : Bool) : Option (RT × Int) := ((ratRight a0).bind fun x1 => (if x1 = true then ((nDivMod a0.2.1 a0.2.2).bind fun x2 => (if (a1 && (decide (0 < ((List.length x2.2.1 : Nat) : Int)))) = true then (ratOne.bind fun x3 => ((nSum ([x2.1, x3])).bind fun x4 => (ratOne.bind fun x5 => ((ratLowest ((x4, x5), a0.1)).bind fun x6 => (some (x6.1, x6.2)))))) else (ratOne.bind fun x7 => ((ratLowest ((x2.1, x7), a0.1)).bind fun x8 => (some (x8.1, x8.2)))))) else (some ((false, [], []), 22))))
theorem rat_whole_ok {a0 : RT} {a1 : Bool} {r : RT × Int} (h : rat_whole a0 a1 = some r) :
    Fn Tryz.prog 64 [.ag [.b a0.1, .sl (L a0.2.1), .sl (L a0.2.2)], .b a1] (.tup [.d (.ag [.b r.1.1, .sl (L r.1.2.1), .sl (L r.1.2.2)]), .d (.i .i64 r.2)]) := by
  unfold rat_whole at h
  refine Fn.ofC (rs := [.cell 4 24, .tmp 5]) (nt := 41) Tryz.func64 rfl rfl rfl (by simp) rfl ?_
  refine .seq ?_
  refine .region ?_
  refine vk (vbx) ?_
  refine vk (van (zero_of gI_R) gZ_R) ?_
  refine asd ?_
  refine rn ?_
  refine .gh (Gh.keep [1, 2, 4, 5] rfl) ?_
  refine .seq ?_
  refine .seq ?_
  refine .region ?_
  refine vk (vlda gA_R gS_R) ?_
  obtain ⟨x1, hx1, h⟩ := bnd h
  refine vk (vcl0 (ratRight_ok hx1) Tryz.call29) ?_
  refine vk (vnt) ?_
  refine rn ?_
  refine .gh (Gh.keep [1, 2, 4, 5, 11] rfl) ?_
  by_cases hc : x1 = true
  · replace h := ite_t hc h
    refine cnf (ntf hc) ?_
    refine .skip ?_
    show AW _ _ _ _ _ _
    refine .seq ?_
    refine .region ?_
    refine vk (vfa gF_R_1) ?_
    refine vk (vldp ga_L) ?_
    refine vk (vfa gF_R_2) ?_
    refine vk (vldp ga_L) ?_
    obtain ⟨x2, hx2, h⟩ := bnd h
    refine vk (VOK.tupd (vs := [.sl (L x2.1), .sl (L x2.2.1), .b x2.2.2]) (vcl0 (nDivMod_ok hx2) Tryz.call53)) ?_
    refine vk (vmvd) ?_
    refine vk (vex) ?_
    refine vk (vex) ?_
    refine vk (vex) ?_
    refine asd ?_
    refine asd ?_
    refine asd ?_
    refine rn ?_
    refine .gh (Gh.keep [1, 2, 4, 5, 6, 7] rfl) ?_
    refine .seq ?_
    refine .seq ?_
    refine AW.mr (σ := Unit) (fun _ => True) (fun _ => [(2, .d (.ptr [.b a0.1, .sl (L a0.2.1), .sl (L a0.2.2)])), (4, .nb [.b false, .sl (L []), .sl (L [])]), (5, .d (.i .i64 0)), (6, .d (.sl (L x2.1))), (27, .d (.b (a1 && (decide (0 < ((List.length x2.2.1 : Nat) : Int))))))]) (fun _ => []) ?_ ?_
    · skip
      refine .region ?_
      refine vk (vmvd) ?_
      by_cases hc : a1 = true
      · have hb0 : a1 = true := hc
        refine vk (VOK.lit (vmvd) hb0) ?_
        refine vk (vmvd) ?_
        refine vk (vlnE (L_length _) (L_sz _) gu_L) ?_
        refine vk (vbi) ?_
        refine vk (vpkd) ?_
        refine RL.gh (Gh.keep [2, 4, 5, 6, 27] rfl) ?_
        refine .nil ?_
        exact jr () trivial (by simp only [hb0]; rfl)
      have hb0 : a1 = false := (bf hc)
      refine vk (VOK.lit (vmvd) hb0) ?_
      refine gf ?_
      refine gf ?_
      refine gf ?_
      refine vk (vpkd) ?_
      refine RL.gh (Gh.keep [2, 4, 5, 6, 27] rfl) ?_
      refine .nil ?_
      exact jr () trivial (by simp only [hb0]; rfl)
    rintro _ _
    by_cases hc : (a1 && (decide (0 < ((List.length x2.2.1 : Nat) : Int)))) = true
    · replace h := ite_t hc h
      refine cnt hc ?_
      refine .region ?_
      refine vk (vmvd) ?_
      obtain ⟨x3, hx3, h⟩ := bnd h
      refine vk ((vcl0 (ratOne_ok hx3) Tryz.call34).deep) ?_
      refine vk ((vbsl (LL_flat [x2.1, x3]) ge_LL).deep) ?_
      obtain ⟨x4, hx4, h⟩ := bnd h
      refine vk (vcl0 (nSum_ok hx4) Tryz.call46) ?_
      refine asd ?_
      refine rn ?_
      refine .gh (Gh.keep [2, 4, 5, 6] rfl) ?_
      refine .seq ?_
      refine .drawn 9 mixed (by kernel_rfl) ?_
      refine dv (vmvd) ?_
      obtain ⟨x5, hx5, h⟩ := bnd h
      refine dv ((vcl0 (ratOne_ok hx5) Tryz.call34).deep) ?_
      refine dv (vbd gP_Z gI_Z gZ_Z) ?_
      refine dv (vfa gF_R_0) ?_
      refine dv (vldp ga_bool) ?_
      refine dv (vbd gP_N gI_N gZ_N) ?_
      obtain ⟨x6, hx6, h⟩ := bnd h
      refine dv (VOK.tupd (vs := [.ag [.b x6.1.1, .sl (L x6.1.2.1), .sl (L x6.1.2.2)], .i .i64 x6.2]) (vcl0 (ratLowest_ok hx6) Tryz.call63)) ?_
      refine dv (vex) ?_
      refine dv (vex) ?_
      refine dz ?_
      refine stn ?_ gS_R (by decide)
      refine asd ?_
      refine rn ?_
      refine .gh (Gh.keep [4, 5] rfl) ?_
      refine .ret ?_
      cases h
      exact ⟨_, _, ⟨.inr rfl, gA_R, gS_R, (by decide : (0 : Nat) < 3)⟩, rfl, rfl⟩
    replace h := ite_f hc h
    refine cnf (bf hc) ?_
    refine .skip ?_
    show AW _ _ _ _ _ _
    refine .seq ?_
    refine .drawn 9 mixed (by kernel_rfl) ?_
    refine dv (vmvd) ?_
    obtain ⟨x7, hx7, h⟩ := bnd h
    refine dv ((vcl0 (ratOne_ok hx7) Tryz.call34).deep) ?_
    refine dv (vbd gP_Z gI_Z gZ_Z) ?_
    refine dv (vfa gF_R_0) ?_
    refine dv (vldp ga_bool) ?_
    refine dv (vbd gP_N gI_N gZ_N) ?_
    obtain ⟨x8, hx8, h⟩ := bnd h
    refine dv (VOK.tupd (vs := [.ag [.b x8.1.1, .sl (L x8.1.2.1), .sl (L x8.1.2.2)], .i .i64 x8.2]) (vcl0 (ratLowest_ok hx8) Tryz.call63)) ?_
    refine dv (vex) ?_
    refine dv (vex) ?_
    refine dz ?_
    refine stn ?_ gS_R (by decide)
    refine asd ?_
    refine rn ?_
    refine .gh (Gh.keep [4, 5] rfl) ?_
    refine .ret ?_
    cases h
    exact ⟨_, _, ⟨.inr rfl, gA_R, gS_R, (by decide : (0 : Nat) < 3)⟩, rfl, rfl⟩
  replace h := ite_f hc h
  refine cnt (ntt (bf hc)) ?_
  refine .seq ?_
  refine .region ?_
  refine vk (vbd gP_R gI_R gZ_R) ?_
  refine stn ?_ gS_R (by decide)
  refine asd ?_
  refine rn ?_
  refine .gh (Gh.keep [1, 2, 4, 5] rfl) ?_
  refine .ret ?_
  cases h
  exact ⟨_, _, ⟨.inr rfl, gA_R, gS_R, (by decide : (0 : Nat) < 3)⟩, rfl, rfl⟩

def rat_Floor (a0 : RT) : Option (RT × Int) := ((rat_whole a0 a0.1).bind fun x1 => (some (x1.1, x1.2)))
theorem rat_Floor_ok {a0 : RT} {r : RT × Int} (h : rat_Floor a0 = some r) :
    Fn Tryz.prog 17 [.ag [.b a0.1, .sl (L a0.2.1), .sl (L a0.2.2)]] (.tup [.d (.ag [.b r.1.1, .sl (L r.1.2.1), .sl (L r.1.2.2)]), .d (.i .i64 r.2)]) := by
  unfold rat_Floor at h
  refine Fn.ofC (rs := [.cell 2 24, .tmp 3]) (nt := 10) Tryz.func17 rfl rfl rfl (by simp) rfl ?_
  refine .seq ?_
  refine .region ?_
  refine vk (vbx) ?_
  refine vk (van (zero_of gI_R) gZ_R) ?_
  refine asd ?_
  refine rn ?_
  refine .gh (Gh.keep [1, 2, 3] rfl) ?_
  refine .seq ?_
  refine .region ?_
  refine vk (vlda gA_R gS_R) ?_
  refine vk (vfa gF_R_0) ?_
  refine vk (vldp ga_bool) ?_
  obtain ⟨x1, hx1, h⟩ := bnd h
  refine vk (VOK.tupd (vs := [.ag [.b x1.1.1, .sl (L x1.1.2.1), .sl (L x1.1.2.2)], .i .i64 x1.2]) (vcl0 (rat_whole_ok hx1) Tryz.call64)) ?_
  refine vk (vex) ?_
  refine vk (vex) ?_
  refine stn ?_ gS_R (by decide)
  refine asd ?_
  refine rn ?_
  refine .gh (Gh.keep [2, 3] rfl) ?_
  refine .ret ?_
  cases h
  exact ⟨_, _, ⟨.inr rfl, gA_R, gS_R, (by decide : (0 : Nat) < 3)⟩, rfl, rfl⟩

def rat_IsInt (a0 : RT) : Option (Bool) := ((ratRight a0).bind fun x1 => (Option.bind ((if x1 = true then (ratOne.bind fun x3 => ((sEqualL a0.2.2 x3).bind fun x4 => (some x4))) else (some false)) : Option (Bool)) fun (z1 : Bool) => (some (z1))))
theorem rat_IsInt_ok {a0 : RT} {r : Bool} (h : rat_IsInt a0 = some r) :
    Fn Tryz.prog 31 [.ag [.b a0.1, .sl (L a0.2.1), .sl (L a0.2.2)]] (.d (.b r)) := by
  unfold rat_IsInt at h
  refine Fn.of (rs := [.tmp 2]) (nt := 11) Tryz.func31 rfl rfl rfl (by simp) rfl ?_
  refine .seq ?_
  refine .region ?_
  refine vk (vbx) ?_
  refine asd ?_
  refine rn ?_
  refine .gh (Gh.keep [1, 2] rfl) ?_
  refine .seq ?_
  obtain ⟨x1, hx1, h⟩ := bnd h
  obtain ⟨z1, hz, h⟩ := bnd h
  refine AW.mr (σ := Unit) (fun _ => True) (fun _ => [(2, .d (.b z1))]) (fun _ => []) ?_ ?_
  · skip
    refine .drawn 8 mixed (by kernel_rfl) ?_
    refine dv (vlda gA_R gS_R) ?_
    refine dv (vcl0 (ratRight_ok hx1) Tryz.call29) ?_
    by_cases hc : x1 = true
    · replace hz := ite_t hc hz
      have hb0 : x1 = true := hc
      refine dv (VOK.lit (vmvd) hb0) ?_
      refine dv (vfa gF_R_2) ?_
      refine dv (vldp ga_L) ?_
      obtain ⟨x3, hx3, hz⟩ := bnd hz
      refine dv ((vcl0 (ratOne_ok hx3) Tryz.call34).deep) ?_
      obtain ⟨x4, hx4, hz⟩ := bnd hz
      refine dv (vcl0 (sEqualL_ok hx4) Tryz.call33) ?_
      refine dv (vpkd) ?_
      refine dz ?_
      refine asd ?_
      refine RL.gh (Gh.keep [2] rfl) ?_
      refine .nil ?_
      cases hz
      exact jr () trivial
    replace hz := ite_f hc hz
    have hb0 : x1 = false := (bf hc)
    refine dv (VOK.lit (vmvd) hb0) ?_
    refine dgf ?_
    refine dgf ?_
    refine dgf ?_
    refine dgf ?_
    refine dv (vpkd) ?_
    refine dz ?_
    refine asd ?_
    refine RL.gh (Gh.keep [2] rfl) ?_
    refine .nil ?_
    cases hz
    exact jr () trivial
  rintro _ _
  refine .ret ?_
  cases h
  exact ⟨rfl, rfl⟩

def rat_natural (a0 : RT) : Option (Bool) := ((rat_IsInt a0).bind fun x1 => (some ((x1 && (!a0.1)))))
theorem rat_natural_ok {a0 : RT} {r : Bool} (h : rat_natural a0 = some r) :
    Fn Tryz.prog 44 [.ag [.b a0.1, .sl (L a0.2.1), .sl (L a0.2.2)]] (.d (.b r)) := by
  unfold rat_natural at h
  refine Fn.of (rs := [.tmp 2]) (nt := 10) Tryz.func44 rfl rfl rfl (by simp) rfl ?_
  refine .seq ?_
  refine .region ?_
  refine vk (vbx) ?_
  refine asd ?_
  refine rn ?_
  refine .gh (Gh.keep [1, 2] rfl) ?_
  refine .seq ?_
  obtain ⟨x1, hx1, h⟩ := bnd h
  refine AW.mr (σ := Unit) (fun _ => True) (fun _ => [(2, .d (.b (x1 && (!a0.1))))]) (fun _ => []) ?_ ?_
  · skip
    refine .region ?_
    refine vk (vlda gA_R gS_R) ?_
    refine vk (vcl0 (rat_IsInt_ok hx1) Tryz.call31) ?_
    by_cases hc : x1 = true
    · have hb0 : x1 = true := hc
      refine vk (VOK.lit (vmvd) hb0) ?_
      refine vk (vfa gF_R_0) ?_
      refine vk (vldp ga_bool) ?_
      refine vk (vnt) ?_
      refine vk (vpkd) ?_
      refine asd ?_
      refine RL.gh (Gh.keep [2] rfl) ?_
      refine .nil ?_
      exact jr () trivial (by simp only [hb0]; rfl)
    have hb0 : x1 = false := (bf hc)
    refine vk (VOK.lit (vmvd) hb0) ?_
    refine gf ?_
    refine gf ?_
    refine gf ?_
    refine vk (vpkd) ?_
    refine asd ?_
    refine RL.gh (Gh.keep [2] rfl) ?_
    refine .nil ?_
    exact jr () trivial (by simp only [hb0]; rfl)
  rintro _ _
  refine .ret ?_
  cases h
  exact ⟨rfl, rfl⟩
end Go.FL
/-
  GP: rat: comparisons, residues, powers, texts.
-/
namespace Go.FL
open Go Go.Proofs

def rat_Residue (a0 : RT) (a1 : RT) : Option (RT × Int) := ((ratAllRight ([a0, a1])).bind fun x1 => (if x1 = true then (if ((List.length a0.2.1 : Nat) : Int) = 0 then ((rat_copied a1 a1.1).bind fun x2 => (some (x2.1, x2.2))) else ((rat_Div a1 a0).bind fun x3 => (if x3.2 = 0 then ((rat_Floor x3.1).bind fun x4 => (if x4.2 = 0 then ((ratMul ([a0, x4.1])).bind fun x5 => (if x5.2 = 0 then ((rat_Sub a1 x5.1).bind fun x6 => (some (x6.1, x6.2))) else (some ((false, [], []), x5.2)))) else (if x4.2 = 0 then ((rat_Sub a1 x4.1).bind fun x7 => (some (x7.1, x7.2))) else (some ((false, [], []), x4.2))))) else (if x3.2 = 0 then ((ratMul ([a0, x3.1])).bind fun x8 => (if x8.2 = 0 then ((rat_Sub a1 x8.1).bind fun x9 => (some (x9.1, x9.2))) else (some ((false, [], []), x8.2)))) else (if x3.2 = 0 then ((rat_Sub a1 x3.1).bind fun x10 => (some (x10.1, x10.2))) else (some ((false, [], []), x3.2))))))) else (some ((false, [], []), 22))))
theorem rat_Residue_ok {a0 : RT} {a1 : RT} {r : RT × Int} (h : rat_Residue a0 a1 = some r) :
    Fn Tryz.prog 4 [.ag [.b a0.1, .sl (L a0.2.1), .sl (L a0.2.2)], .ag [.b a1.1, .sl (L a1.2.1), .sl (L a1.2.2)]] (.tup [.d (.ag [.b r.1.1, .sl (L r.1.2.1), .sl (L r.1.2.2)]), .d (.i .i64 r.2)]) := by
  unfold rat_Residue at h
  refine Fn.ofC (rs := [.cell 4 24, .tmp 5]) (nt := 57) Tryz.func4 rfl rfl rfl (by simp) rfl ?_
  refine .seq ?_
  refine .region ?_
  refine vk (vbx) ?_
  refine vk (vbx) ?_
  refine vk (van (zero_of gI_R) gZ_R) ?_
  refine asd ?_
  refine rn ?_
  refine .gh (Gh.keep [2, 3, 4, 5] rfl) ?_
  refine .seq ?_
  refine .block ?_
  refine .seq ?_
  refine .region ?_
  refine vk (vlda gA_R gS_R) ?_
  refine vk (vlda gA_R gS_R) ?_
  refine vk ((vbsl (RVs_flat [a0, a1]) ge_RVs).deep) ?_
  obtain ⟨x1, hx1, h⟩ := bnd h
  refine vk (vcl0 (ratAllRight_ok hx1) Tryz.call14) ?_
  refine vk (vnt) ?_
  refine asd ?_
  refine rn ?_
  refine .gh (Gh.keep [2, 3, 4, 5, 8] rfl) ?_
  by_cases hc : x1 = true
  · replace h := ite_t hc h
    refine cnf (ntf hc) ?_
    refine .seq ?_
    refine .region ?_
    refine vk (vfa gF_R_1) ?_
    refine vk (vldp ga_L) ?_
    refine vk (vlnE (L_length _) (L_sz _) gu_L) ?_
    refine vk (vbi) ?_
    refine asd ?_
    refine rn ?_
    refine .gh (Gh.keep [2, 3, 4, 5, 15] rfl) ?_
    by_cases hc : ((List.length a0.2.1 : Nat) : Int) = 0
    · replace h := ite_t hc h
      refine cnt (decide_eq_true hc) ?_
      refine .seq ?_
      refine .region ?_
      refine vk (vlda gA_R gS_R) ?_
      refine vk (vfa gF_R_0) ?_
      refine vk (vldp ga_bool) ?_
      obtain ⟨x2, hx2, h⟩ := bnd h
      refine vk (VOK.tupd (vs := [.ag [.b x2.1.1, .sl (L x2.1.2.1), .sl (L x2.1.2.2)], .i .i64 x2.2]) (vcl0 (rat_copied_ok hx2) Tryz.call15)) ?_
      refine vk (vex) ?_
      refine vk (vex) ?_
      refine stn ?_ gS_R (by decide)
      refine asd ?_
      refine rn ?_
      refine .gh (Gh.keep [2, 3, 4, 5] rfl) ?_
      refine .ret ?_
      cases h
      exact ⟨_, _, ⟨.inr rfl, gA_R, gS_R, (by decide : (0 : Nat) < 3)⟩, rfl, rfl⟩
    replace h := ite_f hc h
    refine cnf (decide_eq_false hc) ?_
    refine .skip ?_
    show AW _ _ _ _ _ _
    refine .seq ?_
    refine .region ?_
    refine vk (vlda gA_R gS_R) ?_
    refine vk (vlda gA_R gS_R) ?_
    obtain ⟨x3, hx3, h⟩ := bnd h
    refine vk (VOK.tupd (vs := [.ag [.b x3.1.1, .sl (L x3.1.2.1), .sl (L x3.1.2.2)], .i .i64 x3.2]) (vcl0 (rat_Div_ok hx3) Tryz.call16)) ?_
    refine vk (vmvd) ?_
    refine vk (vex) ?_
    refine vk (vex) ?_
    refine vk (van (zero_of gI_R) gZ_R) ?_
    refine stn ?_ gS_R (by decide)
    refine asd ?_
    refine rn ?_
    refine .gh (Gh.keep [2, 3, 4, 5, 6, 7] rfl) ?_
    refine .seq ?_
    refine .seq ?_
    refine .region ?_
    refine vk (vmvd) ?_
    refine vk (vbi) ?_
    refine rn ?_
    refine .gh (Gh.keep [2, 3, 4, 5, 6, 7, 33] rfl) ?_
    by_cases hc : x3.2 = 0
    · replace h := ite_t hc h
      refine cnt (decide_eq_true hc) ?_
      refine .region ?_
      refine vk (vldn gA_R gS_R) ?_
      obtain ⟨x4, hx4, h⟩ := bnd h
      refine vk (VOK.tupd (vs := [.ag [.b x4.1.1, .sl (L x4.1.2.1), .sl (L x4.1.2.2)], .i .i64 x4.2]) (vcl0 (rat_Floor_ok hx4) Tryz.call17)) ?_
      refine vk (vmvd) ?_
      refine vk (vex) ?_
      refine vk (vex) ?_
      refine stn ?_ gS_R (by decide)
      refine asd ?_
      refine rn ?_
      refine .gh (Gh.keep [2, 3, 4, 5, 6, 7] rfl) ?_
      refine .seq ?_
      refine .seq ?_
      refine .region ?_
      refine vk (vmvd) ?_
      refine vk (vbi) ?_
      refine rn ?_
      refine .gh (Gh.keep [2, 3, 4, 5, 6, 7, 40] rfl) ?_
      by_cases hc : x4.2 = 0
      · replace h := ite_t hc h
        refine cnt (decide_eq_true hc) ?_
        refine .region ?_
        refine vk (vlda gA_R gS_R) ?_
        refine vk (vldn gA_R gS_R) ?_
        refine vk ((vbsl (RVs_flat [a0, x4.1]) ge_RVs).deep) ?_
        obtain ⟨x5, hx5, h⟩ := bnd h
        refine vk (VOK.tupd (vs := [.ag [.b x5.1.1, .sl (L x5.1.2.1), .sl (L x5.1.2.2)], .i .i64 x5.2]) (vcl0 (ratMul_ok hx5) Tryz.call18)) ?_
        refine vk (vmvd) ?_
        refine vk (vex) ?_
        refine vk (vex) ?_
        refine stn ?_ gS_R (by decide)
        refine asd ?_
        refine rn ?_
        refine .gh (Gh.keep [3, 4, 5, 6, 7] rfl) ?_
        refine .seq ?_
        refine .seq ?_
        refine .region ?_
        refine vk (vmvd) ?_
        refine vk (vbi) ?_
        refine rn ?_
        refine .gh (Gh.keep [3, 4, 5, 6, 7, 49] rfl) ?_
        by_cases hc : x5.2 = 0
        · replace h := ite_t hc h
          refine cnf (ntf (decide_eq_true hc)) ?_
          refine .skip ?_
          show AW _ _ _ _ _ _
          refine .seq ?_
          refine .region ?_
          refine vk (vlda gA_R gS_R) ?_
          refine vk (vldn gA_R gS_R) ?_
          obtain ⟨x6, hx6, h⟩ := bnd h
          refine vk (VOK.tupd (vs := [.ag [.b x6.1.1, .sl (L x6.1.2.1), .sl (L x6.1.2.2)], .i .i64 x6.2]) (vcl0 (rat_Sub_ok hx6) Tryz.call19)) ?_
          refine vk (vex) ?_
          refine vk (vex) ?_
          refine stn ?_ gS_R (by decide)
          refine asd ?_
          refine rn ?_
          refine .gh (Gh.keep [4, 5] rfl) ?_
          refine .ret ?_
          cases h
          exact ⟨_, _, ⟨.inr rfl, gA_R, gS_R, (by decide : (0 : Nat) < 3)⟩, rfl, rfl⟩
        replace h := ite_f hc h
        refine cnt (ntt (decide_eq_false hc)) ?_
        refine .seq ?_
        refine .region ?_
        refine vk (vbd gP_R gI_R gZ_R) ?_
        refine vk (vmvd) ?_
        refine stn ?_ gS_R (by decide)
        refine asd ?_
        refine rn ?_
        refine .gh (Gh.keep [3, 4, 5, 6] rfl) ?_
        refine .ret ?_
        cases h
        exact ⟨_, _, ⟨.inr rfl, gA_R, gS_R, (by decide : (0 : Nat) < 3)⟩, rfl, rfl⟩
      replace h := ite_f hc h
      refine cnf (decide_eq_false hc) ?_
      refine .skip ?_
      show AW _ _ _ _ _ _
      refine .seq ?_
      refine .seq ?_
      refine .region ?_
      refine vk (vmvd) ?_
      refine vk (vbi) ?_
      refine rn ?_
      refine .gh (Gh.keep [3, 4, 5, 6, 7, 49] rfl) ?_
      by_cases hc : x4.2 = 0
      · replace h := ite_t hc h
        refine cnf (ntf (decide_eq_true hc)) ?_
        refine .skip ?_
        show AW _ _ _ _ _ _
        refine .seq ?_
        refine .region ?_
        refine vk (vlda gA_R gS_R) ?_
        refine vk (vldn gA_R gS_R) ?_
        obtain ⟨x7, hx7, h⟩ := bnd h
        refine vk (VOK.tupd (vs := [.ag [.b x7.1.1, .sl (L x7.1.2.1), .sl (L x7.1.2.2)], .i .i64 x7.2]) (vcl0 (rat_Sub_ok hx7) Tryz.call19)) ?_
        refine vk (vex) ?_
        refine vk (vex) ?_
        refine stn ?_ gS_R (by decide)
        refine asd ?_
        refine rn ?_
        refine .gh (Gh.keep [4, 5] rfl) ?_
        refine .ret ?_
        cases h
        exact ⟨_, _, ⟨.inr rfl, gA_R, gS_R, (by decide : (0 : Nat) < 3)⟩, rfl, rfl⟩
      replace h := ite_f hc h
      refine cnt (ntt (decide_eq_false hc)) ?_
      refine .seq ?_
      refine .region ?_
      refine vk (vbd gP_R gI_R gZ_R) ?_
      refine vk (vmvd) ?_
      refine stn ?_ gS_R (by decide)
      refine asd ?_
      refine rn ?_
      refine .gh (Gh.keep [3, 4, 5, 6] rfl) ?_
      refine .ret ?_
      cases h
      exact ⟨_, _, ⟨.inr rfl, gA_R, gS_R, (by decide : (0 : Nat) < 3)⟩, rfl, rfl⟩
    replace h := ite_f hc h
    refine cnf (decide_eq_false hc) ?_
    refine .skip ?_
    show AW _ _ _ _ _ _
    refine .seq ?_
    refine .seq ?_
    refine .region ?_
    refine vk (vmvd) ?_
    refine vk (vbi) ?_
    refine rn ?_
    refine .gh (Gh.keep [2, 3, 4, 5, 6, 7, 40] rfl) ?_
    by_cases hc : x3.2 = 0
    · replace h := ite_t hc h
      refine cnt (decide_eq_true hc) ?_
      refine .region ?_
      refine vk (vlda gA_R gS_R) ?_
      refine vk (vldn gA_R gS_R) ?_
      refine vk ((vbsl (RVs_flat [a0, x3.1]) ge_RVs).deep) ?_
      obtain ⟨x8, hx8, h⟩ := bnd h
      refine vk (VOK.tupd (vs := [.ag [.b x8.1.1, .sl (L x8.1.2.1), .sl (L x8.1.2.2)], .i .i64 x8.2]) (vcl0 (ratMul_ok hx8) Tryz.call18)) ?_
      refine vk (vmvd) ?_
      refine vk (vex) ?_
      refine vk (vex) ?_
      refine stn ?_ gS_R (by decide)
      refine asd ?_
      refine rn ?_
      refine .gh (Gh.keep [3, 4, 5, 6, 7] rfl) ?_
      refine .seq ?_
      refine .seq ?_
      refine .region ?_
      refine vk (vmvd) ?_
      refine vk (vbi) ?_
      refine rn ?_
      refine .gh (Gh.keep [3, 4, 5, 6, 7, 49] rfl) ?_
      by_cases hc : x8.2 = 0
      · replace h := ite_t hc h
        refine cnf (ntf (decide_eq_true hc)) ?_
        refine .skip ?_
        show AW _ _ _ _ _ _
        refine .seq ?_
        refine .region ?_
        refine vk (vlda gA_R gS_R) ?_
        refine vk (vldn gA_R gS_R) ?_
        obtain ⟨x9, hx9, h⟩ := bnd h
        refine vk (VOK.tupd (vs := [.ag [.b x9.1.1, .sl (L x9.1.2.1), .sl (L x9.1.2.2)], .i .i64 x9.2]) (vcl0 (rat_Sub_ok hx9) Tryz.call19)) ?_
        refine vk (vex) ?_
        refine vk (vex) ?_
        refine stn ?_ gS_R (by decide)
        refine asd ?_
        refine rn ?_
        refine .gh (Gh.keep [4, 5] rfl) ?_
        refine .ret ?_
        cases h
        exact ⟨_, _, ⟨.inr rfl, gA_R, gS_R, (by decide : (0 : Nat) < 3)⟩, rfl, rfl⟩
      replace h := ite_f hc h
      refine cnt (ntt (decide_eq_false hc)) ?_
      refine .seq ?_
      refine .region ?_
      refine vk (vbd gP_R gI_R gZ_R) ?_
      refine vk (vmvd) ?_
      refine stn ?_ gS_R (by decide)
      refine asd ?_
      refine rn ?_
      refine .gh (Gh.keep [3, 4, 5, 6] rfl) ?_
      refine .ret ?_
      cases h
      exact ⟨_, _, ⟨.inr rfl, gA_R, gS_R, (by decide : (0 : Nat) < 3)⟩, rfl, rfl⟩
    replace h := ite_f hc h
    refine cnf (decide_eq_false hc) ?_
    refine .skip ?_
    show AW _ _ _ _ _ _
    refine .seq ?_
    refine .seq ?_
    refine .region ?_
    refine vk (vmvd) ?_
    refine vk (vbi) ?_
    refine rn ?_
    refine .gh (Gh.keep [3, 4, 5, 6, 7, 49] rfl) ?_
    by_cases hc : x3.2 = 0
    · replace h := ite_t hc h
      refine cnf (ntf (decide_eq_true hc)) ?_
      refine .skip ?_
      show AW _ _ _ _ _ _
      refine .seq ?_
      refine .region ?_
      refine vk (vlda gA_R gS_R) ?_
      refine vk (vldn gA_R gS_R) ?_
      obtain ⟨x10, hx10, h⟩ := bnd h
      refine vk (VOK.tupd (vs := [.ag [.b x10.1.1, .sl (L x10.1.2.1), .sl (L x10.1.2.2)], .i .i64 x10.2]) (vcl0 (rat_Sub_ok hx10) Tryz.call19)) ?_
      refine vk (vex) ?_
      refine vk (vex) ?_
      refine stn ?_ gS_R (by decide)
      refine asd ?_
      refine rn ?_
      refine .gh (Gh.keep [4, 5] rfl) ?_
      refine .ret ?_
      cases h
      exact ⟨_, _, ⟨.inr rfl, gA_R, gS_R, (by decide : (0 : Nat) < 3)⟩, rfl, rfl⟩
    replace h := ite_f hc h
    refine cnt (ntt (decide_eq_false hc)) ?_
    refine .seq ?_
    refine .region ?_
    refine vk (vbd gP_R gI_R gZ_R) ?_
    refine vk (vmvd) ?_
    refine stn ?_ gS_R (by decide)
    refine asd ?_
    refine rn ?_
    refine .gh (Gh.keep [3, 4, 5, 6] rfl) ?_
    refine .ret ?_
    cases h
    exact ⟨_, _, ⟨.inr rfl, gA_R, gS_R, (by decide : (0 : Nat) < 3)⟩, rfl, rfl⟩
  replace h := ite_f hc h
  refine cnt (ntt (bf hc)) ?_
  refine .seq ?_
  refine .region ?_
  refine vk (vbd gP_R gI_R gZ_R) ?_
  refine stn ?_ gS_R (by decide)
  refine asd ?_
  refine rn ?_
  refine .gh (Gh.keep [2, 3, 4, 5] rfl) ?_
  refine .ret ?_
  cases h
  exact ⟨_, _, ⟨.inr rfl, gA_R, gS_R, (by decide : (0 : Nat) < 3)⟩, rfl, rfl⟩

def rat_Power (a0 : RT) (a1 : RT) : Option (RT × Int) := ((ratAllRight ([a0, a1])).bind fun x1 => (if x1 = true then ((rat_IsInt a1).bind fun x2 => (if ((!x2) || ((decide (((List.length a0.2.1 : Nat) : Int) = 0)) && a1.1)) = true then (some ((false, [], []), 3)) else (if ((List.length a1.2.1 : Nat) : Int) = 0 then ((ratOfInt 1).bind fun x3 => (some (x3, 0))) else (if ((List.length a0.2.1 : Nat) : Int) = 0 then ((ratOfInt 0).bind fun x4 => (some (x4, 0))) else (Option.bind ((if a0.1 = true then ((rd? a1.2.1 0).bind fun x6 => (some (decide ((bits .and .u32 ((x6 : Nat) : Int) 1) = 1)))) else (some false)) : Option (Bool)) fun (z5 : Bool) => ((sEqualL a0.2.1 a0.2.2).bind fun x7 => (if x7 = true then (ratOne.bind fun x8 => (ratOne.bind fun x9 => (some ((z5, x8, x9), 0)))) else ((nSmall a1.2.1).bind fun x10 => (if x10.2 = true then ((nPower a0.2.1 x10.1 32).bind fun x11 => ((nPower a0.2.2 x10.1 32).bind fun x12 => (if ((!x11.2) || (!x12.2)) = true then (some ((false, [], []), 8)) else (if a1.1 = true then (some ((z5, x12.1, x11.1), 0)) else (some ((z5, x11.1, x12.1), 0)))))) else (some ((false, [], []), 8))))))))))) else (some ((false, [], []), 22))))
set_option maxHeartbeats 4000000 in
theorem rat_Power_ok {a0 : RT} {a1 : RT} {r : RT × Int} (h : rat_Power a0 a1 = some r) :
    Fn Tryz.prog 8 [.ag [.b a0.1, .sl (L a0.2.1), .sl (L a0.2.2)], .ag [.b a1.1, .sl (L a1.2.1), .sl (L a1.2.2)]] (.tup [.d (.ag [.b r.1.1, .sl (L r.1.2.1), .sl (L r.1.2.2)]), .d (.i .i64 r.2)]) := by
  unfold rat_Power at h
  refine Fn.ofC (rs := [.cell 4 24, .tmp 5]) (nt := 104) Tryz.func8 rfl rfl rfl (by simp) rfl ?_
  refine .seq ?_
  refine .region ?_
  refine vk (vbx) ?_
  refine vk (vbx) ?_
  refine vk (van (zero_of gI_R) gZ_R) ?_
  refine asd ?_
  refine rn ?_
  refine .gh (Gh.keep [2, 3, 4, 5] rfl) ?_
  refine .seq ?_
  refine .block ?_
  refine .seq ?_
  refine .region ?_
  refine vk (vlda gA_R gS_R) ?_
  refine vk (vlda gA_R gS_R) ?_
  refine vk ((vbsl (RVs_flat [a0, a1]) ge_RVs).deep) ?_
  obtain ⟨x1, hx1, h⟩ := bnd h
  refine vk (vcl0 (ratAllRight_ok hx1) Tryz.call14) ?_
  refine vk (vnt) ?_
  refine asd ?_
  refine rn ?_
  refine .gh (Gh.keep [2, 3, 4, 5, 13] rfl) ?_
  by_cases hc : x1 = true
  · replace h := ite_t hc h
    refine cnf (ntf hc) ?_
    refine .seq ?_
    obtain ⟨x2, hx2, h⟩ := bnd h
    refine AW.mr (σ := Unit) (fun _ => True) (fun _ => [(2, .d (.ptr [.b a0.1, .sl (L a0.2.1), .sl (L a0.2.2)])), (3, .d (.ptr [.b a1.1, .sl (L a1.2.1), .sl (L a1.2.2)])), (4, .nb [.b false, .sl (L []), .sl (L [])]), (5, .d (.i .i64 0)), (20, .d (.b ((!x2) || ((decide (((List.length a0.2.1 : Nat) : Int) = 0)) && a1.1))))]) (fun _ => []) ?_ ?_
    · skip
      refine .region ?_
      refine vk (vlda gA_R gS_R) ?_
      refine vk (vcl0 (rat_IsInt_ok hx2) Tryz.call31) ?_
      refine vk (vnt) ?_
      by_cases hc : x2 = true
      · have hb0 : (!x2) = false := (ntf hc)
        refine vk (VOK.lit (vmvd) hb0) ?_
        refine vk (vfa gF_R_1) ?_
        refine vk (vldp ga_L) ?_
        refine vk (vlnE (L_length _) (L_sz _) gu_L) ?_
        refine vk (vbi) ?_
        by_cases hc : ((List.length a0.2.1 : Nat) : Int) = 0
        · have hb1 : (decide (((List.length a0.2.1 : Nat) : Int) = 0)) = true := (decide_eq_true hc)
          refine vk (VOK.lit (vmvd) hb1) ?_
          refine vk (vfa gF_R_0) ?_
          refine vk (vldp ga_bool) ?_
          refine vk (vpkd) ?_
          refine vk (vpkd) ?_
          refine asd ?_
          refine RL.gh (Gh.keep [2, 3, 4, 5, 20] rfl) ?_
          refine .nil ?_
          exact jr () trivial (by simp only [hb0, hb1]; rfl)
        have hb1 : (decide (((List.length a0.2.1 : Nat) : Int) = 0)) = false := (decide_eq_false hc)
        refine vk (VOK.lit (vmvd) hb1) ?_
        refine gf ?_
        refine gf ?_
        refine vk (vpkd) ?_
        refine vk (vpkd) ?_
        refine asd ?_
        refine RL.gh (Gh.keep [2, 3, 4, 5, 20] rfl) ?_
        refine .nil ?_
        exact jr () trivial (by simp only [hb0, hb1]; rfl)
      have hb0 : (!x2) = true := (ntt (bf hc))
      refine vk (VOK.lit (vmvd) hb0) ?_
      refine gf ?_
      refine gf ?_
      refine gf ?_
      refine gf ?_
      refine gfu ?_
      refine gf ?_
      refine gf ?_
      refine gf ?_
      refine vk (vpkd) ?_
      refine asd ?_
      refine RL.gh (Gh.keep [2, 3, 4, 5, 20] rfl) ?_
      refine .nil ?_
      exact jr () trivial (by simp only [hb0]; rfl)
    rintro _ _
    by_cases hc : ((!x2) || ((decide (((List.length a0.2.1 : Nat) : Int) = 0)) && a1.1)) = true
    · replace h := ite_t hc h
      refine cnt hc ?_
      refine .seq ?_
      refine .region ?_
      refine vk (vbd gP_R gI_R gZ_R) ?_
      refine stn ?_ gS_R (by decide)
      refine asd ?_
      refine rn ?_
      refine .gh (Gh.keep [2, 3, 4, 5] rfl) ?_
      refine .ret ?_
      cases h
      exact ⟨_, _, ⟨.inr rfl, gA_R, gS_R, (by decide : (0 : Nat) < 3)⟩, rfl, rfl⟩
    replace h := ite_f hc h
    refine cnf (bf hc) ?_
    refine .seq ?_
    refine .region ?_
    refine vk (vfa gF_R_1) ?_
    refine vk (vldp ga_L) ?_
    refine vk (vlnE (L_length _) (L_sz _) gu_L) ?_
    refine vk (vbi) ?_
    refine asd ?_
    refine rn ?_
    refine .gh (Gh.keep [2, 3, 4, 5, 35] rfl) ?_
    by_cases hc : ((List.length a1.2.1 : Nat) : Int) = 0
    · replace h := ite_t hc h
      refine cnt (decide_eq_true hc) ?_
      refine .seq ?_
      refine .region ?_
      obtain ⟨x3, hx3, h⟩ := bnd h
      refine vk (vcl0 (ratOfInt_ok hx3) Tryz.call32) ?_
      refine stn ?_ gS_R (by decide)
      refine asd ?_
      refine rn ?_
      refine .gh (Gh.keep [2, 3, 4, 5] rfl) ?_
      refine .ret ?_
      cases h
      exact ⟨_, _, ⟨.inr rfl, gA_R, gS_R, (by decide : (0 : Nat) < 3)⟩, rfl, rfl⟩
    replace h := ite_f hc h
    refine cnf (decide_eq_false hc) ?_
    refine .seq ?_
    refine .region ?_
    refine vk (vfa gF_R_1) ?_
    refine vk (vldp ga_L) ?_
    refine vk (vlnE (L_length _) (L_sz _) gu_L) ?_
    refine vk (vbi) ?_
    refine asd ?_
    refine rn ?_
    refine .gh (Gh.keep [2, 3, 4, 5, 41] rfl) ?_
    by_cases hc : ((List.length a0.2.1 : Nat) : Int) = 0
    · replace h := ite_t hc h
      refine cnt (decide_eq_true hc) ?_
      refine .seq ?_
      refine .region ?_
      obtain ⟨x4, hx4, h⟩ := bnd h
      refine vk (vcl0 (ratOfInt_ok hx4) Tryz.call32) ?_
      refine stn ?_ gS_R (by decide)
      refine asd ?_
      refine rn ?_
      refine .gh (Gh.keep [2, 3, 4, 5] rfl) ?_
      refine .ret ?_
      cases h
      exact ⟨_, _, ⟨.inr rfl, gA_R, gS_R, (by decide : (0 : Nat) < 3)⟩, rfl, rfl⟩
    replace h := ite_f hc h
    refine cnf (decide_eq_false hc) ?_
    refine .skip ?_
    show AW _ _ _ _ _ _
    refine .seq ?_
    obtain ⟨z5, hz, h⟩ := bnd h
    refine AW.mr (σ := Unit) (fun _ => True) (fun _ => [(2, .d (.ptr [.b a0.1, .sl (L a0.2.1), .sl (L a0.2.2)])), (3, .d (.ptr [.b a1.1, .sl (L a1.2.1), .sl (L a1.2.2)])), (4, .nb [.b false, .sl (L []), .sl (L [])]), (5, .d (.i .i64 0)), (6, .d (.b z5))]) (fun _ => []) ?_ ?_
    · skip
      refine .region ?_
      refine vk (vfa gF_R_0) ?_
      refine vk (vldp ga_bool) ?_
      by_cases hc : a0.1 = true
      · replace hz := ite_t hc hz
        have hb0 : a0.1 = true := hc
        refine vk (VOK.lit (vmvd) hb0) ?_
        refine vk (vfa gF_R_1) ?_
        refine vk (vldp ga_L) ?_
        obtain ⟨x6, hx6, hz⟩ := bnd hz
        obtain ⟨nx6, hnx6, hxx6⟩ := rd_some hx6
        refine vk (vix nx6 hnx6 (L_at hxx6) rfl gs_L) ?_
        refine vk (vldp ga_uint32) ?_
        refine vk (vbi) ?_
        refine vk (vbi) ?_
        refine vk (vpkd) ?_
        refine asd ?_
        refine RL.gh (Gh.keep [2, 3, 4, 5, 6] rfl) ?_
        refine .nil ?_
        cases hz
        exact jr () trivial
      replace hz := ite_f hc hz
      have hb0 : a0.1 = false := (bf hc)
      refine vk (VOK.lit (vmvd) hb0) ?_
      refine gf ?_
      refine gf ?_
      refine gf ?_
      refine gf ?_
      refine gf ?_
      refine gf ?_
      refine vk (vpkd) ?_
      refine asd ?_
      refine RL.gh (Gh.keep [2, 3, 4, 5, 6] rfl) ?_
      refine .nil ?_
      cases hz
      exact jr () trivial
    rintro _ _
    refine .seq ?_
    refine .seq ?_
    refine .region ?_
    refine vk (vfa gF_R_1) ?_
    refine vk (vldp ga_L) ?_
    refine vk (vfa gF_R_2) ?_
    refine vk (vldp ga_L) ?_
    obtain ⟨x7, hx7, h⟩ := bnd h
    refine vk (vcl0 (sEqualL_ok hx7) Tryz.call33) ?_
    refine rn ?_
    refine .gh (Gh.keep [2, 3, 4, 5, 6, 61] rfl) ?_
    by_cases hc : x7 = true
    · replace h := ite_t hc h
      refine cnt hc ?_
      refine .seq ?_
      refine .region ?_
      refine vk (vmvd) ?_
      obtain ⟨x8, hx8, h⟩ := bnd h
      refine vk ((vcl0 (ratOne_ok hx8) Tryz.call34).deep) ?_
      obtain ⟨x9, hx9, h⟩ := bnd h
      refine vk ((vcl0 (ratOne_ok hx9) Tryz.call34).deep) ?_
      refine vk (vbd gP_R gI_R gZ_R) ?_
      refine stn ?_ gS_R (by decide)
      refine asd ?_
      refine rn ?_
      refine .gh (Gh.keep [2, 3, 4, 5, 6] rfl) ?_
      refine .ret ?_
      cases h
      exact ⟨_, _, ⟨.inr rfl, gA_R, gS_R, (by decide : (0 : Nat) < 3)⟩, rfl, rfl⟩
    replace h := ite_f hc h
    refine cnf (bf hc) ?_
    refine .skip ?_
    show AW _ _ _ _ _ _
    refine .seq ?_
    refine .region ?_
    refine vk (vfa gF_R_1) ?_
    refine vk (vldp ga_L) ?_
    obtain ⟨x10, hx10, h⟩ := bnd h
    refine vk (VOK.tupd (vs := [.i .i64 x10.1, .b x10.2]) (vcl0 (nSmall_ok hx10) Tryz.call35)) ?_
    refine vk (vmvd) ?_
    refine vk (vex) ?_
    refine vk (vex) ?_
    refine asd ?_
    refine asd ?_
    refine rn ?_
    refine .gh (Gh.keep [2, 3, 4, 5, 6, 7, 8] rfl) ?_
    refine .seq ?_
    refine .seq ?_
    refine .region ?_
    refine vk (vmvd) ?_
    refine vk (vnt) ?_
    refine rn ?_
    refine .gh (Gh.keep [2, 3, 4, 5, 6, 7, 73] rfl) ?_
    by_cases hc : x10.2 = true
    · replace h := ite_t hc h
      refine cnf (ntf hc) ?_
      refine .skip ?_
      show AW _ _ _ _ _ _
      refine .seq ?_
      refine .region ?_
      refine vk (vfa gF_R_1) ?_
      refine vk (vldp ga_L) ?_
      refine vk (vmvd) ?_
      obtain ⟨x11, hx11, h⟩ := bnd h
      refine vk (VOK.tupd (vs := [.sl (L x11.1), .b x11.2]) (vcl0 (nPower_ok hx11) Tryz.call36)) ?_
      refine vk (vmvd) ?_
      refine vk (vex) ?_
      refine vk (vex) ?_
      refine asd ?_
      refine asd ?_
      refine rn ?_
      refine .gh (Gh.keep [2, 3, 4, 5, 6, 7, 9, 10] rfl) ?_
      refine .seq ?_
      refine .region ?_
      refine vk (vfa gF_R_2) ?_
      refine vk (vldp ga_L) ?_
      refine vk (vmvd) ?_
      obtain ⟨x12, hx12, h⟩ := bnd h
      refine vk (VOK.tupd (vs := [.sl (L x12.1), .b x12.2]) (vcl0 (nPower_ok hx12) Tryz.call36)) ?_
      refine vk (vmvd) ?_
      refine vk (vex) ?_
      refine vk (vex) ?_
      refine asd ?_
      refine asd ?_
      refine rn ?_
      refine .gh (Gh.keep [3, 4, 5, 6, 9, 10, 11, 12] rfl) ?_
      refine .seq ?_
      refine .seq ?_
      refine AW.mr (σ := Unit) (fun _ => True) (fun _ => [(3, .d (.ptr [.b a1.1, .sl (L a1.2.1), .sl (L a1.2.2)])), (4, .nb [.b false, .sl (L []), .sl (L [])]), (5, .d (.i .i64 0)), (6, .d (.b z5)), (9, .d (.sl (L x11.1))), (11, .d (.sl (L x12.1))), (94, .d (.b ((!x11.2) || (!x12.2))))]) (fun _ => []) ?_ ?_
      · skip
        refine .region ?_
        refine vk (vmvd) ?_
        refine vk (vnt) ?_
        by_cases hc : x11.2 = true
        · have hb0 : (!x11.2) = false := (ntf hc)
          refine vk (VOK.lit (vmvd) hb0) ?_
          refine vk (vmvd) ?_
          refine vk (vnt) ?_
          refine vk (vpkd) ?_
          refine RL.gh (Gh.keep [3, 4, 5, 6, 9, 11, 94] rfl) ?_
          refine .nil ?_
          exact jr () trivial (by simp only [hb0]; rfl)
        have hb0 : (!x11.2) = true := (ntt (bf hc))
        refine vk (VOK.lit (vmvd) hb0) ?_
        refine gf ?_
        refine gf ?_
        refine vk (vpkd) ?_
        refine RL.gh (Gh.keep [3, 4, 5, 6, 9, 11, 94] rfl) ?_
        refine .nil ?_
        exact jr () trivial (by simp only [hb0]; rfl)
      rintro _ _
      by_cases hc : ((!x11.2) || (!x12.2)) = true
      · replace h := ite_t hc h
        refine cnt hc ?_
        refine .seq ?_
        refine .region ?_
        refine vk (vbd gP_R gI_R gZ_R) ?_
        refine stn ?_ gS_R (by decide)
        refine asd ?_
        refine rn ?_
        refine .gh (Gh.keep [3, 4, 5, 6, 9, 11] rfl) ?_
        refine .ret ?_
        cases h
        exact ⟨_, _, ⟨.inr rfl, gA_R, gS_R, (by decide : (0 : Nat) < 3)⟩, rfl, rfl⟩
      replace h := ite_f hc h
      refine cnf (bf hc) ?_
      refine .skip ?_
      show AW _ _ _ _ _ _
      refine .seq ?_
      refine .seq ?_
      refine .region ?_
      refine vk (vfa gF_R_0) ?_
      refine vk (vldp ga_bool) ?_
      refine rn ?_
      refine .gh (Gh.keep [4, 5, 6, 9, 11, 97] rfl) ?_
      by_cases hc : a1.1 = true
      · replace h := ite_t hc h
        refine cnt hc ?_
        refine .region ?_
        refine vk (vmvd) ?_
        refine vk (vmvd) ?_
        refine asd ?_
        refine asd ?_
        refine rn ?_
        refine .gh (Gh.keep [4, 5, 6, 9, 11] rfl) ?_
        refine .seq ?_
        refine .region ?_
        refine vk (vmvd) ?_
        refine vk (vmvd) ?_
        refine vk (vmvd) ?_
        refine vk (vbd gP_R gI_R gZ_R) ?_
        refine stn ?_ gS_R (by decide)
        refine asd ?_
        refine rn ?_
        refine .gh (Gh.keep [4, 5] rfl) ?_
        refine .ret ?_
        cases h
        exact ⟨_, _, ⟨.inr rfl, gA_R, gS_R, (by decide : (0 : Nat) < 3)⟩, rfl, rfl⟩
      replace h := ite_f hc h
      refine cnf (bf hc) ?_
      refine .skip ?_
      show AW _ _ _ _ _ _
      refine .seq ?_
      refine .region ?_
      refine vk (vmvd) ?_
      refine vk (vmvd) ?_
      refine vk (vmvd) ?_
      refine vk (vbd gP_R gI_R gZ_R) ?_
      refine stn ?_ gS_R (by decide)
      refine asd ?_
      refine rn ?_
      refine .gh (Gh.keep [4, 5] rfl) ?_
      refine .ret ?_
      cases h
      exact ⟨_, _, ⟨.inr rfl, gA_R, gS_R, (by decide : (0 : Nat) < 3)⟩, rfl, rfl⟩
    replace h := ite_f hc h
    refine cnt (ntt (bf hc)) ?_
    refine .seq ?_
    refine .region ?_
    refine vk (vbd gP_R gI_R gZ_R) ?_
    refine stn ?_ gS_R (by decide)
    refine asd ?_
    refine rn ?_
    refine .gh (Gh.keep [2, 3, 4, 5, 6, 7] rfl) ?_
    refine .ret ?_
    cases h
    exact ⟨_, _, ⟨.inr rfl, gA_R, gS_R, (by decide : (0 : Nat) < 3)⟩, rfl, rfl⟩
  replace h := ite_f hc h
  refine cnt (ntt (bf hc)) ?_
  refine .seq ?_
  refine .region ?_
  refine vk (vbd gP_R gI_R gZ_R) ?_
  refine stn ?_ gS_R (by decide)
  refine asd ?_
  refine rn ?_
  refine .gh (Gh.keep [2, 3, 4, 5] rfl) ?_
  refine .ret ?_
  cases h
  exact ⟨_, _, ⟨.inr rfl, gA_R, gS_R, (by decide : (0 : Nat) < 3)⟩, rfl, rfl⟩

def rat_Binomial_l1 (a1 : RT) (z6 : (List Nat)) : Nat → RT → Int → (List Nat) → (List Nat) → Option (RT × Int)
  | 0, _, _, _, _ => none
  | k + 1, s11, s12, s13, s14 => ((nCompare s14 z6).bind fun x15 => (if x15 ≤ 0 then (ratOne.bind fun x16 => ((nSum ([a1.2.1, x16])).bind fun x17 => ((nMinus x17 s14).bind fun x18 => ((nProduct ([s13, x18.1])).bind fun x19 => ((nDivMod x19 s14).bind fun x20 => (if 32 < ((List.length x20.1 : Nat) : Int) then (some ((false, [], []), 8)) else (ratOne.bind fun x21 => ((nSum ([s14, x21])).bind fun x22 => (rat_Binomial_l1 a1 z6 k s11 s12 x20.1 x22))))))))) else (ratOne.bind fun x23 => (some ((false, s13, x23), 0)))))
def rat_Binomial (a0 : RT) (a1 : RT) : Option (RT × Int) := ((ratAllRight ([a0, a1])).bind fun x1 => (if x1 = true then ((rat_natural a0).bind fun x2 => (Option.bind ((if x2 = true then ((rat_natural a1).bind fun x4 => (some (!x4))) else (some true)) : Option (Bool)) fun (z2 : Bool) => (if z2 = true then (some ((false, [], []), 3)) else ((nMinus a1.2.1 a0.2.1).bind fun x5 => (jn (fun (z6 : (List Nat)) => (ratOne.bind fun x9 => (ratOne.bind fun x10 => (rat_Binomial_l1 a1 z6 FUEL (false, [], []) 0 x9 x10)))) fun K0 => (if x5.2 = true then ((nCompare x5.1 a0.2.1).bind fun x7 => (if x7 < 0 then (K0 x5.1) else (K0 a0.2.1))) else ((ratOfInt 0).bind fun x8 => (some (x8, 0))))))))) else (some ((false, [], []), 22))))
theorem rat_Binomial_ok {a0 : RT} {a1 : RT} {r : RT × Int} (h : rat_Binomial a0 a1 = some r) :
    Fn Tryz.prog 12 [.ag [.b a0.1, .sl (L a0.2.1), .sl (L a0.2.2)], .ag [.b a1.1, .sl (L a1.2.1), .sl (L a1.2.2)]] (.tup [.d (.ag [.b r.1.1, .sl (L r.1.2.1), .sl (L r.1.2.2)]), .d (.i .i64 r.2)]) := by
  unfold rat_Binomial at h
  refine Fn.ofC (rs := [.cell 4 24, .tmp 5]) (nt := 86) Tryz.func12 rfl rfl rfl (by simp) rfl ?_
  refine .seq ?_
  refine .region ?_
  refine vk (vbx) ?_
  refine vk (vbx) ?_
  refine vk (van (zero_of gI_R) gZ_R) ?_
  refine asd ?_
  refine rn ?_
  refine .gh (Gh.keep [2, 3, 4, 5] rfl) ?_
  refine .seq ?_
  refine .block ?_
  refine .seq ?_
  refine .region ?_
  refine vk (vlda gA_R gS_R) ?_
  refine vk (vlda gA_R gS_R) ?_
  refine vk ((vbsl (RVs_flat [a0, a1]) ge_RVs).deep) ?_
  obtain ⟨x1, hx1, h⟩ := bnd h
  refine vk (vcl0 (ratAllRight_ok hx1) Tryz.call14) ?_
  refine vk (vnt) ?_
  refine asd ?_
  refine rn ?_
  refine .gh (Gh.keep [2, 3, 4, 5, 13] rfl) ?_
  by_cases hc : x1 = true
  · replace h := ite_t hc h
    refine cnf (ntf hc) ?_
    refine .seq ?_
    obtain ⟨x2, hx2, h⟩ := bnd h
    obtain ⟨z2, hz, h⟩ := bnd h
    refine AW.mr (σ := Unit) (fun _ => True) (fun _ => [(2, .d (.ptr [.b a0.1, .sl (L a0.2.1), .sl (L a0.2.2)])), (3, .d (.ptr [.b a1.1, .sl (L a1.2.1), .sl (L a1.2.2)])), (4, .nb [.b false, .sl (L []), .sl (L [])]), (5, .d (.i .i64 0)), (20, .d (.b z2))]) (fun _ => []) ?_ ?_
    · skip
      refine .region ?_
      refine vk (vlda gA_R gS_R) ?_
      refine vk (vcl0 (rat_natural_ok hx2) Tryz.call44) ?_
      refine vk (vnt) ?_
      by_cases hc : x2 = true
      · replace hz := ite_t hc hz
        have hb0 : (!x2) = false := (ntf hc)
        refine vk (VOK.lit (vmvd) hb0) ?_
        refine vk (vlda gA_R gS_R) ?_
        obtain ⟨x4, hx4, hz⟩ := bnd hz
        refine vk (vcl0 (rat_natural_ok hx4) Tryz.call44) ?_
        refine vk (vnt) ?_
        refine vk (vpkd) ?_
        refine asd ?_
        refine RL.gh (Gh.keep [2, 3, 4, 5, 20] rfl) ?_
        refine .nil ?_
        cases hz
        exact jr () trivial
      replace hz := ite_f hc hz
      have hb0 : (!x2) = true := (ntt (bf hc))
      refine vk (VOK.lit (vmvd) hb0) ?_
      refine gf ?_
      refine gf ?_
      refine gf ?_
      refine vk (vpkd) ?_
      refine asd ?_
      refine RL.gh (Gh.keep [2, 3, 4, 5, 20] rfl) ?_
      refine .nil ?_
      cases hz
      exact jr () trivial
    rintro _ _
    by_cases hc : z2 = true
    · replace h := ite_t hc h
      refine cnt hc ?_
      refine .seq ?_
      refine .region ?_
      refine vk (vbd gP_R gI_R gZ_R) ?_
      refine stn ?_ gS_R (by decide)
      refine asd ?_
      refine rn ?_
      refine .gh (Gh.keep [2, 3, 4, 5] rfl) ?_
      refine .ret ?_
      cases h
      exact ⟨_, _, ⟨.inr rfl, gA_R, gS_R, (by decide : (0 : Nat) < 3)⟩, rfl, rfl⟩
    replace h := ite_f hc h
    refine cnf (bf hc) ?_
    refine .skip ?_
    show AW _ _ _ _ _ _
    refine .seq ?_
    refine .region ?_
    refine vk (vfa gF_R_1) ?_
    refine vk (vldp ga_L) ?_
    refine asd ?_
    refine rn ?_
    refine .gh (Gh.keep [3, 4, 5, 6] rfl) ?_
    refine .seq ?_
    refine .region ?_
    refine vk (vfa gF_R_1) ?_
    refine vk (vldp ga_L) ?_
    refine vk (vmvd) ?_
    obtain ⟨x5, hx5, h⟩ := bnd h
    refine vk (VOK.tupd (vs := [.sl (L x5.1), .b x5.2]) (vcl0 (nMinus_ok hx5) Tryz.call52)) ?_
    refine vk (vmvd) ?_
    refine vk (vex) ?_
    refine vk (vex) ?_
    refine asd ?_
    refine asd ?_
    refine rn ?_
    refine .gh (Gh.keep [3, 4, 5, 6, 7, 8] rfl) ?_
    obtain ⟨K0, hK0, h⟩ := jn_out h
    refine AW.mj (σ := (List Nat)) (fun p => K0 p = some r) (fun p => [(3, .d (.ptr [.b a1.1, .sl (L a1.2.1), .sl (L a1.2.2)])), (4, .nb [.b false, .sl (L []), .sl (L [])]), (5, .d (.i .i64 0)), (6, .d (.sl (L p)))]) (fun p => []) ?_ ?_
    · skip
      refine .block ?_
      refine .seq ?_
      refine .region ?_
      refine vk (vmvd) ?_
      refine vk (vnt) ?_
      refine asd ?_
      refine rn ?_
      refine .gh (Gh.keep [3, 4, 5, 6, 7, 39] rfl) ?_
      by_cases hc : x5.2 = true
      · replace h := ite_t hc h
        refine cnf (ntf hc) ?_
        refine .seq ?_
        refine .region ?_
        refine vk (vmvd) ?_
        refine vk (vmvd) ?_
        obtain ⟨x7, hx7, h⟩ := bnd h
        refine vk (vcl0 (nCompare_ok hx7) Tryz.call45) ?_
        refine vk (vbi) ?_
        refine asd ?_
        refine rn ?_
        refine .gh (Gh.keep [3, 4, 5, 6, 7, 43] rfl) ?_
        by_cases hc : x7 < 0
        · replace h := ite_t hc h
          refine cnt (decide_eq_true hc) ?_
          refine .region ?_
          refine vk (vmvd) ?_
          refine asd ?_
          refine RL.gh (Gh.keep [3, 4, 5, 6] rfl) ?_
          refine .nil ?_
          exact jr (x5.1) h
        replace h := ite_f hc h
        refine cnf (decide_eq_false hc) ?_
        refine .gh (Gh.keep [3, 4, 5, 6] rfl) ?_
        refine .skip ?_
        exact jr (a0.2.1) h
      replace h := ite_f hc h
      refine cnt (ntt (bf hc)) ?_
      refine .seq ?_
      refine .region ?_
      obtain ⟨x8, hx8, h⟩ := bnd h
      refine vk (vcl0 (ratOfInt_ok hx8) Tryz.call32) ?_
      refine stn ?_ gS_R (by decide)
      refine asd ?_
      refine rn ?_
      refine .gh (Gh.keep [3, 4, 5, 6] rfl) ?_
      refine .ret ?_
      cases h
      exact ⟨_, _, ⟨.inr rfl, gA_R, gS_R, (by decide : (0 : Nat) < 3)⟩, rfl, rfl⟩
    rintro z6 h
    try dsimp only at h ⊢
    subst hK0
    refine .seq ?_
    refine .region ?_
    obtain ⟨x9, hx9, h⟩ := bnd h
    refine vk ((vcl0 (ratOne_ok hx9) Tryz.call34).deep) ?_
    refine asd ?_
    refine rn ?_
    refine .gh (Gh.keep [3, 4, 5, 6, 9] rfl) ?_
    refine .seq ?_
    refine .seq ?_
    refine .region ?_
    obtain ⟨x10, hx10, h⟩ := bnd h
    refine vk ((vcl0 (ratOne_ok hx10) Tryz.call34).deep) ?_
    refine asd ?_
    refine rn ?_
    refine .gh (Gh.keep [3, 4, 5, 6, 9, 10] rfl) ?_
    refine .block ?_
    refine .loop (.gh (Gh.keep [3, 4, 5, 6, 9, 10] rfl) ?_)
    refine AL.ind (σ := Nat × RT × Int × (List Nat) × (List Nat)) (m := fun p => p.1) (e := fun p => [(3, .d (.ptr [.b a1.1, .sl (L a1.2.1), .sl (L a1.2.2)])), (4, .nb [.b p.2.1.1, .sl (L p.2.1.2.1), .sl (L p.2.1.2.2)]), (5, .d (.i .i64 p.2.2.1)), (6, .d (.sl (L z6))), (9, .d (.sl (L p.2.2.2.1))), (10, .d (.sl (L p.2.2.2.2)))]) (h := fun p => []) (I := fun p => rat_Binomial_l1 a1 z6 p.1 p.2.1 p.2.2.1 p.2.2.2.1 p.2.2.2.2 = some r) ?_ (FUEL, (false, [], []), 0, x9, x10) h
    rintro ⟨k, s11, s12, s13, s14⟩ h ih
    dsimp only at h ih ⊢
    rcases k with _ | k
    · rw [rat_Binomial_l1] at h; cases h
    rw [rat_Binomial_l1] at h
    refine .seq ?_
    refine .seq ?_
    refine .region ?_
    refine vk (vmvd) ?_
    refine vk (vmvd) ?_
    obtain ⟨x15, hx15, h⟩ := bnd h
    refine vk (vcl0 (nCompare_ok hx15) Tryz.call45) ?_
    refine vk (vbi) ?_
    refine rn ?_
    refine .gh (Gh.keep [3, 4, 5, 6, 9, 10, 54] rfl) ?_
    by_cases hc : x15 ≤ 0
    · replace h := ite_t hc h
      refine cnt (decide_eq_true hc) ?_
      refine .skip ?_
      show AW _ _ _ _ _ _
      refine .seq ?_
      refine .block ?_
      refine .seq ?_
      obtain ⟨x16, hx16, h⟩ := bnd h
      obtain ⟨x17, hx17, h⟩ := bnd h
      obtain ⟨x18, hx18, h⟩ := bnd h
      refine .drawnF 10 [9] [(11, .d (.sl (L x18.1)))] [] mixed (by kernel_rfl) rfl ?_
      refine dv (vfa gF_R_1) ?_
      refine dv (vldp ga_L) ?_
      refine dv ((vcl0 (ratOne_ok hx16) Tryz.call34).deep) ?_
      refine dv ((vbsl (LL_flat [a1.2.1, x16]) ge_LL).deep) ?_
      refine dv (vcl0 (nSum_ok hx17) Tryz.call46) ?_
      refine dv (vmvd) ?_
      refine dv (VOK.tupd (vs := [.sl (L x18.1), .b x18.2]) (vcl0 (nMinus_ok hx18) Tryz.call52)) ?_
      refine dv (vmvd) ?_
      refine dv (vex) ?_
      refine dv (vex) ?_
      refine dz ?_
      refine ⟨?_, ?_, ?_⟩
      · intro k hk
        simp only [List.mem_cons, List.not_mem_nil, or_false] at hk
        subst hk
        exact ⟨_, _, _, rfl, rfl, rfl, rfl, rfl, rfl, vex⟩
      · intro om e hom hge
        cases hom
        exact ok_asd rfl ((hge 67 (fun k hk v hv => by
            simp only [List.mem_cons, List.not_mem_nil, or_false] at hk
            subst hk; exact (by decide : ¬ (some 68 = some 67)) (congrArg (Option.map Prod.fst) hv))).trans rfl) rfl ((congrArg isOwn (hge 11 (fun k hk v hv => by
            simp only [List.mem_cons, List.not_mem_nil, or_false] at hk
            subst hk; exact (by decide : ¬ (some 68 = some 11)) (congrArg (Option.map Prod.fst) hv)))).trans rfl) rfl ⟨rfl, rfl⟩
      refine asd ?_
      refine rn ?_
      refine .gh (Gh.keep [3, 4, 5, 6, 9, 10, 11] rfl) ?_
      refine .seq ?_
      refine .region ?_
      refine vk (vmvd) ?_
      refine vk (vmvd) ?_
      refine vk ((vbsl (LL_flat [s13, x18.1]) ge_LL).deep) ?_
      obtain ⟨x19, hx19, h⟩ := bnd h
      refine vk (vcl0 (nProduct_ok hx19) Tryz.call47) ?_
      refine vk (vmvd) ?_
      obtain ⟨x20, hx20, h⟩ := bnd h
      refine vk (VOK.tupd (vs := [.sl (L x20.1), .sl (L x20.2.1), .b x20.2.2]) (vcl0 (nDivMod_ok hx20) Tryz.call53)) ?_
      refine vk (vmvd) ?_
      refine vk (vex) ?_
      refine vk (vex) ?_
      refine vk (vex) ?_
      refine asd ?_
      refine rn ?_
      refine .gh (Gh.keep [3, 4, 5, 6, 9, 10] rfl) ?_
      refine .seq ?_
      refine .region ?_
      refine vk (vmvd) ?_
      refine vk (vlnE (L_length _) (L_sz _) gu_L) ?_
      refine vk (vbi) ?_
      refine rn ?_
      refine .gh (Gh.keep [3, 4, 5, 6, 9, 10, 81] rfl) ?_
      by_cases hc : 32 < ((List.length x20.1 : Nat) : Int)
      · replace h := ite_t hc h
        refine cnt (decide_eq_true hc) ?_
        refine .seq ?_
        refine .region ?_
        refine vk (vbd gP_R gI_R gZ_R) ?_
        refine stn ?_ gS_R (by decide)
        refine asd ?_
        refine rn ?_
        refine .gh (Gh.keep [3, 4, 5, 6, 9, 10] rfl) ?_
        refine .ret ?_
        cases h
        exact ⟨_, _, ⟨.inr rfl, gA_R, gS_R, (by decide : (0 : Nat) < 3)⟩, rfl, rfl⟩
      replace h := ite_f hc h
      refine cnf (decide_eq_false hc) ?_
      refine .skip ?_
      show AW _ _ _ _ _ _
      refine .region ?_
      refine vk (vmvd) ?_
      obtain ⟨x21, hx21, h⟩ := bnd h
      refine vk ((vcl0 (ratOne_ok hx21) Tryz.call34).deep) ?_
      refine vk ((vbsl (LL_flat [s14, x21]) ge_LL).deep) ?_
      obtain ⟨x22, hx22, h⟩ := bnd h
      refine vk (vcl0 (nSum_ok hx22) Tryz.call46) ?_
      refine asd ?_
      refine .nil ?_
      refine AL.gh (Gh.keep [3, 4, 5, 6, 9, 10] rfl) ?_
      exact ih (k, s11, s12, x20.1, x22) h (Nat.lt_succ_self _)
    replace h := ite_f hc h
    refine cnf (decide_eq_false hc) ?_
    refine .exit ?_
    show AW _ _ _ _ _ _
    refine .seq ?_
    refine .region ?_
    refine vk (vmvd) ?_
    obtain ⟨x23, hx23, h⟩ := bnd h
    refine vk ((vcl0 (ratOne_ok hx23) Tryz.call34).deep) ?_
    refine vk (vbd gP_R gI_R gZ_R) ?_
    refine stn ?_ gS_R (by decide)
    refine asd ?_
    refine rn ?_
    refine .gh (Gh.keep [4, 5] rfl) ?_
    refine .ret ?_
    cases h
    exact ⟨_, _, ⟨.inr rfl, gA_R, gS_R, (by decide : (0 : Nat) < 3)⟩, rfl, rfl⟩
  replace h := ite_f hc h
  refine cnt (ntt (bf hc)) ?_
  refine .seq ?_
  refine .region ?_
  refine vk (vbd gP_R gI_R gZ_R) ?_
  refine stn ?_ gS_R (by decide)
  refine asd ?_
  refine rn ?_
  refine .gh (Gh.keep [2, 3, 4, 5] rfl) ?_
  refine .ret ?_
  cases h
  exact ⟨_, _, ⟨.inr rfl, gA_R, gS_R, (by decide : (0 : Nat) < 3)⟩, rfl, rfl⟩

def rat_Print (a0 : RT) : Option (ByteArray) := ((ratRight a0).bind fun x1 => (if x1 = true then ((nPrint a0.2.1).bind fun x2 => (if a0.1 = true then ((sap? (⟨#[194, 175]⟩ : ByteArray) x2).bind fun x3 => (ratOne.bind fun x4 => ((sEqualL a0.2.2 x4).bind fun x5 => (if x5 = true then (some (x3)) else ((nPrint a0.2.2).bind fun x6 => ((sap? (⟨#[114]⟩ : ByteArray) x6).bind fun x7 => ((sap? x3 x7).bind fun x8 => (some (x8))))))))) else (ratOne.bind fun x9 => ((sEqualL a0.2.2 x9).bind fun x10 => (if x10 = true then (some (x2)) else ((nPrint a0.2.2).bind fun x11 => ((sap? (⟨#[114]⟩ : ByteArray) x11).bind fun x12 => ((sap? x2 x12).bind fun x13 => (some (x13)))))))))) else (some ((⟨#[]⟩ : ByteArray)))))
theorem rat_Print_ok {a0 : RT} {r : ByteArray} (h : rat_Print a0 = some r) :
    Fn Tryz.prog 28 [.ag [.b a0.1, .sl (L a0.2.1), .sl (L a0.2.2)]] (.d (.s r)) := by
  unfold rat_Print at h
  refine Fn.of (rs := [.tmp 2]) (nt := 26) Tryz.func28 rfl rfl rfl (by simp) rfl ?_
  refine .seq ?_
  refine .region ?_
  refine vk (vbx) ?_
  refine asd ?_
  refine rn ?_
  refine .gh (Gh.keep [1, 2] rfl) ?_
  refine .seq ?_
  refine .seq ?_
  refine .region ?_
  refine vk (vlda gA_R gS_R) ?_
  obtain ⟨x1, hx1, h⟩ := bnd h
  refine vk (vcl0 (ratRight_ok hx1) Tryz.call29) ?_
  refine vk (vnt) ?_
  refine rn ?_
  refine .gh (Gh.keep [1, 2, 6] rfl) ?_
  by_cases hc : x1 = true
  · replace h := ite_t hc h
    refine cnf (ntf hc) ?_
    refine .skip ?_
    show AW _ _ _ _ _ _
    refine .seq ?_
    refine .region ?_
    refine vk (vfa gF_R_1) ?_
    refine vk (vldp ga_L) ?_
    obtain ⟨x2, hx2, h⟩ := bnd h
    refine vk (vcl0 (nPrint_ok hx2) Tryz.call76) ?_
    refine asd ?_
    refine rn ?_
    refine .gh (Gh.keep [1, 2, 3] rfl) ?_
    refine .seq ?_
    refine .seq ?_
    refine .region ?_
    refine vk (vfa gF_R_0) ?_
    refine vk (vldp ga_bool) ?_
    refine rn ?_
    refine .gh (Gh.keep [1, 2, 3, 11] rfl) ?_
    by_cases hc : a0.1 = true
    · replace h := ite_t hc h
      refine cnt hc ?_
      refine .region ?_
      refine vk (vmvd) ?_
      obtain ⟨x3, hx3, h⟩ := bnd h
      refine vk (vsa hx3) ?_
      refine asd ?_
      refine rn ?_
      refine .gh (Gh.keep [1, 2, 3] rfl) ?_
      refine .seq ?_
      refine .seq ?_
      refine .drawn 5 mixed (by kernel_rfl) ?_
      refine dv (vfa gF_R_2) ?_
      refine dv (vldp ga_L) ?_
      obtain ⟨x4, hx4, h⟩ := bnd h
      refine dv ((vcl0 (ratOne_ok hx4) Tryz.call34).deep) ?_
      obtain ⟨x5, hx5, h⟩ := bnd h
      refine dv (vcl0 (sEqualL_ok hx5) Tryz.call33) ?_
      refine dv (vnt) ?_
      refine dz ?_
      refine rn ?_
      refine .gh (Gh.keep [1, 2, 3, 18] rfl) ?_
      by_cases hc : x5 = true
      · replace h := ite_t hc h
        refine cnf (ntf hc) ?_
        refine .skip ?_
        show AW _ _ _ _ _ _
        refine .seq ?_
        refine .region ?_
        refine vk (vmvd) ?_
        refine asd ?_
        refine rn ?_
        refine .gh (Gh.keep [2] rfl) ?_
        refine .ret ?_
        cases h
        exact ⟨rfl, rfl⟩
      replace h := ite_f hc h
      refine cnt (ntt (bf hc)) ?_
      refine .region ?_
      refine vk (vmvd) ?_
      refine vk (vfa gF_R_2) ?_
      refine vk (vldp ga_L) ?_
      obtain ⟨x6, hx6, h⟩ := bnd h
      refine vk (vcl0 (nPrint_ok hx6) Tryz.call76) ?_
      obtain ⟨x7, hx7, h⟩ := bnd h
      refine vk (vsa hx7) ?_
      obtain ⟨x8, hx8, h⟩ := bnd h
      refine vk (vsa hx8) ?_
      refine asd ?_
      refine rn ?_
      refine .gh (Gh.keep [2, 3] rfl) ?_
      refine .seq ?_
      refine .region ?_
      refine vk (vmvd) ?_
      refine asd ?_
      refine rn ?_
      refine .gh (Gh.keep [2] rfl) ?_
      refine .ret ?_
      cases h
      exact ⟨rfl, rfl⟩
    replace h := ite_f hc h
    refine cnf (bf hc) ?_
    refine .skip ?_
    show AW _ _ _ _ _ _
    refine .seq ?_
    refine .seq ?_
    refine .drawn 5 mixed (by kernel_rfl) ?_
    refine dv (vfa gF_R_2) ?_
    refine dv (vldp ga_L) ?_
    obtain ⟨x9, hx9, h⟩ := bnd h
    refine dv ((vcl0 (ratOne_ok hx9) Tryz.call34).deep) ?_
    obtain ⟨x10, hx10, h⟩ := bnd h
    refine dv (vcl0 (sEqualL_ok hx10) Tryz.call33) ?_
    refine dv (vnt) ?_
    refine dz ?_
    refine rn ?_
    refine .gh (Gh.keep [1, 2, 3, 18] rfl) ?_
    by_cases hc : x10 = true
    · replace h := ite_t hc h
      refine cnf (ntf hc) ?_
      refine .skip ?_
      show AW _ _ _ _ _ _
      refine .seq ?_
      refine .region ?_
      refine vk (vmvd) ?_
      refine asd ?_
      refine rn ?_
      refine .gh (Gh.keep [2] rfl) ?_
      refine .ret ?_
      cases h
      exact ⟨rfl, rfl⟩
    replace h := ite_f hc h
    refine cnt (ntt (bf hc)) ?_
    refine .region ?_
    refine vk (vmvd) ?_
    refine vk (vfa gF_R_2) ?_
    refine vk (vldp ga_L) ?_
    obtain ⟨x11, hx11, h⟩ := bnd h
    refine vk (vcl0 (nPrint_ok hx11) Tryz.call76) ?_
    obtain ⟨x12, hx12, h⟩ := bnd h
    refine vk (vsa hx12) ?_
    obtain ⟨x13, hx13, h⟩ := bnd h
    refine vk (vsa hx13) ?_
    refine asd ?_
    refine rn ?_
    refine .gh (Gh.keep [2, 3] rfl) ?_
    refine .seq ?_
    refine .region ?_
    refine vk (vmvd) ?_
    refine asd ?_
    refine rn ?_
    refine .gh (Gh.keep [2] rfl) ?_
    refine .ret ?_
    cases h
    exact ⟨rfl, rfl⟩
  replace h := ite_f hc h
  refine cnt (ntt (bf hc)) ?_
  refine .seq ?_
  refine .region ?_
  refine asd ?_
  refine rn ?_
  refine .gh (Gh.keep [1, 2] rfl) ?_
  refine .ret ?_
  cases h
  exact ⟨rfl, rfl⟩
end Go.FL
/-
  Plain laws, rat 2: sums, differences, products, quotients, as the program reckons them.
-/
namespace Go.FL
open Go Go.Proofs

theorem w64_eq {z : Int} (h1 : -9223372036854775808 ≤ z) (h2 : z ≤ 9223372036854775807) : w64 z = z := wrap64 h1 h2
theorem bind_eq {α β : Type} {x : Option α} {a : α} {f : α → Option β} {r : Option β} (h : x = some a) (h2 : f a = r) : x.bind f = r := by rw [h]; exact h2
theorem ratRight_eq {r : RT} (h : okRB r = true) : ratRight r = some (rightR r) := if_pos h
theorem ref2Right_eq {r : RT} (h : okRB r = true) : ref2Right r = some (rightR r) := if_pos h
theorem ratAll_eq {l : List RT} (h : l.all okRB = true) (hl : l.length ≤ 1048576) : ratAllRight l = some (l.all rightR) := if_pos (by rw [h, Bool.true_and]; exact decide_eq_true hl)
theorem ratAll2 {a b : RT} (ha : okRB a = true) (hb : okRB b = true) : ratAllRight [a, b] = some (rightR a && rightR b) := by
  rw [ratAll_eq (by simp [ha, hb]) (by simp)]; simp
theorem ratOf_eq (a : RT) : ratOf a = some ((a.2.1, a.2.2), a.1) := if_pos trivial
theorem ratLess_eq (a : (List Nat × List Nat) × Bool) : ratLess a = some (a.1, !a.2) := if_pos trivial
theorem ratOne_eq : ratOne = some [1] := if_pos trivial
theorem ref2One_eq : ref2One = some [1] := if_pos trivial
theorem ref2Zero_eq : ref2Zero = some (ofQ 0) := by rw [ofQ_zero]; exact if_pos trivial
theorem ratOf_q (p : Rat) : ratOf (ofQ p) = some (qN (q3 p)) := ratOf_eq _
theorem less_q (x : Q3) : ratLess (qN x) = some (qN (!x.1, x.2.1, x.2.2)) := ratLess_eq _
theorem numQ_qN (x : Q3) : numQ (qN x) = x := by simp [numQ, val_digs]
/-- Parts that are not too great. -/
def sm (k : Nat) (x : Q3) : Prop := (digs x.2.1).length ≤ k ∧ (digs x.2.2).length ≤ k
theorem sm_mono {k l : Nat} {x : Q3} (h : sm k x) (hl : k ≤ l) : sm l x := ⟨Nat.le_trans h.1 hl, Nat.le_trans h.2 hl⟩
theorem sm_q {p : Rat} (h : fits p) : sm 32 (q3 p) := h
theorem plus_q {x y : Q3} (hx : sm 4000 x) (hy : sm 4000 y) : ratPlus (qN x) (qN y) = some (qN (plusN x y)) := by
  have : ratPlus (qN x) (qN y) = some (qN (plusN (numQ (qN x)) (numQ (qN y)))) := if_pos (by
    simp only [Bool.and_eq_true]
    exact ⟨⟨okL_digs hx.1, okL_digs hx.2⟩, okL_digs hy.1, okL_digs hy.2⟩)
  rw [this, numQ_qN, numQ_qN]
theorem times_q {x y : Q3} (hx : sm 4000 x) (hy : sm 4000 y) : ratTimes (qN x) (qN y) = some (qN (timesN x y)) := by
  have : ratTimes (qN x) (qN y) = some (qN (timesN (numQ (qN x)) (numQ (qN y)))) := if_pos (by
    simp only [Bool.and_eq_true]
    exact ⟨⟨okL_digs hx.1, okL_digs hx.2⟩, okL_digs hy.1, okL_digs hy.2⟩)
  rw [this, numQ_qN, numQ_qN]
theorem low_q {x : Q3} (hx : sm 100000 x) (h0 : x.2.2 ≠ 0) : ratLowest (qN x) = some (resR (valQ x)) := by
  have : ratLowest (qN x) = some (resQ (lowE x.1 (val (digs x.2.1)) (val (digs x.2.2)))) := if_pos (by
    simp only [Bool.and_eq_true]
    exact ⟨okL_digs hx.1, okL_digs hx.2⟩)
  rw [this, val_digs, val_digs, lowE_rat h0, resQ_lowR]
theorem plus_sm {x y : Q3} {k : Nat} (hx : sm k x) (hy : sm k y) : sm (2 * k + 1) (plusN x y) := by
  have l1 := mul_len (digs_ok x.2.1) (digs_ok y.2.2) hx.1 hy.2
  have l2 := mul_len (digs_ok y.2.1) (digs_ok x.2.2) hy.1 hx.2
  have l3 := mul_len (digs_ok x.2.2) (digs_ok y.2.2) hx.2 hy.2
  rw [val_digs, val_digs] at l1 l2 l3
  have h2 : (plusN x y).2.2 = x.2.2 * y.2.2 := by simp only [plusN]; split <;> first | rfl | (split <;> rfl)
  refine ⟨?_, by rw [h2]; omega⟩
  simp only [plusN]
  generalize x.2.1 * y.2.2 = a at *
  generalize y.2.1 * x.2.2 = b at *
  split
  · exact add_len l1 l2
  · split
    · exact Nat.le_trans (sub_len l1) (by omega)
    · exact Nat.le_trans (sub_len l2) (by omega)
theorem times_sm {x y : Q3} {k : Nat} (hx : sm k x) (hy : sm k y) : sm (2 * k) (timesN x y) := by
  have l1 := mul_len (digs_ok x.2.1) (digs_ok y.2.1) hx.1 hy.1
  have l3 := mul_len (digs_ok x.2.2) (digs_ok y.2.2) hx.2 hy.2
  rw [val_digs, val_digs] at l1 l3
  exact ⟨l1, l3⟩
theorem less_val (x : Q3) : valQ (!x.1, x.2.1, x.2.2) = - valQ x := by
  rw [Rat.neg_mkRat]
  have : sg (!x.1) x.2.1 = - sg x.1 x.2.1 := by cases x.1 <;> simp [sg]
  rw [valQ, this]
theorem less_sm {x : Q3} {k : Nat} (hx : sm k x) : sm k (!x.1, x.2.1, x.2.2) := hx
theorem den_ne (p : Rat) : (q3 p).2.2 ≠ 0 := p.den_nz
/-- Both ways: not right, or rationals. -/
theorem two_cases {a b : RT} : (rightR a && rightR b) = false ∨ ∃ p q, fits p ∧ fits q ∧ a = ofQ p ∧ b = ofQ q := by
  rcases right_cases (r := a) with h | ⟨p, hp, rfl⟩
  · exact .inl (by rw [h]; rfl)
  · rcases right_cases (r := b) with h | ⟨q, hq, rfl⟩
    · exact .inl (by rw [h, Bool.and_false])
    · exact .inr ⟨p, q, hp, hq, rfl, rfl⟩
theorem two_right {p q : Rat} (hp : fits p) (hq : fits q) : (rightR (ofQ p) && rightR (ofQ q)) = true := by rw [ofQ_right hp, ofQ_right hq]; rfl
theorem sub_q {p q : Rat} (hp : fits p) (hq : fits q) : rat_Sub (ofQ p) (ofQ q) = some (resR (p - q)) := by
  unfold rat_Sub
  have s1 := sm_mono (sm_q hp) (show 32 ≤ 4000 by decide)
  have s2 := sm_mono (sm_q hq) (show 32 ≤ 4000 by decide)
  obtain ⟨v1, v2⟩ := plusN_rat (x := q3 p) (y := (!(q3 q).1, (q3 q).2.1, (q3 q).2.2)) (den_ne p) (den_ne q)
  refine bind_eq (ratAll2 (ofQ_okRB hp) (ofQ_okRB hq)) ?_
  rw [two_right hp hq, if_pos rfl]
  refine bind_eq (ratOf_q p) (bind_eq (ratOf_q q) (bind_eq (less_q _) (bind_eq (plus_q s1 (less_sm s2)) (bind_eq (low_q (sm_mono (plus_sm (sm_q hp) (less_sm (sm_q hq))) (by decide)) v2) ?_))))
  rw [v1, less_val, valQ_of, valQ_of, Rat.sub_eq_add_neg]
theorem num_pos {p : Rat} : (0 : Int) < ((List.length (ofQ p).2.1 : Nat) : Int) ↔ p ≠ 0 := by
  show (0 : Int) < (((digs p.num.natAbs).length : Nat) : Int) ↔ _
  constructor
  · rintro h rfl
    rw [show (0 : Rat).num.natAbs = 0 from rfl, digs_zero] at h; simp at h
  · intro h
    have : p.num ≠ 0 := fun h2 => h (Rat.num_eq_zero.1 h2)
    have : digs p.num.natAbs ≠ [] := fun h2 => this (by have := digs_nil_iff.1 h2; omega)
    have := List.length_pos_iff.2 this
    omega
theorem num_zero {p : Rat} : ((List.length (ofQ p).2.1 : Nat) : Int) = 0 ↔ p = 0 := by
  have := @num_pos p
  constructor
  · intro h
    by_cases hp : p = 0
    · exact hp
    · have := this.2 hp; omega
  · intro h
    by_cases h0 : ((List.length (ofQ p).2.1 : Nat) : Int) = 0
    · exact h0
    · exact absurd h (this.1 (by omega))
theorem ofInt_q {z : Int} (h1 : -9223372036854775808 ≤ z) (h2 : z ≤ 9223372036854775807) : ratOfInt z = some (ofQ z) := by
  have : ratOfInt z = some (decide (z < 0), digs z.natAbs, [1]) := if_pos ⟨h1, h2⟩
  rw [this]
  show _ = some (decide (z < 0), digs z.natAbs, digs 1)
  rw [one_digs]
/-- The inverse, as its parts. -/
theorem inv_val {p : Rat} (h : p ≠ 0) : valQ ((q3 p).1, (q3 p).2.2, (q3 p).2.1) = p⁻¹ := by
  have hn : p.num ≠ 0 := fun h2 => h (Rat.num_eq_zero.1 h2)
  rw [Rat.inv_def, valQ]
  simp only [sg, decide_eq_true_eq]
  rw [← Rat.divInt_ofNat]
  by_cases h3 : p.num < 0
  · rw [if_pos h3, show ((p.num.natAbs : Nat) : Int) = - p.num by omega, ← Rat.neg_divInt_neg]; simp
  · rw [if_neg h3, show ((p.num.natAbs : Nat) : Int) = p.num by omega]
theorem div_q {p q : Rat} (hp : fits p) (hq : fits q) : rat_Div (ofQ p) (ofQ q) = some (if q = 0 then (if p = 0 then (ofQ 1, 0) else bad 3) else resR (p / q)) := by
  unfold rat_Div
  refine bind_eq (ratAll2 (ofQ_okRB hp) (ofQ_okRB hq)) ?_
  rw [two_right hp hq, if_pos rfl]
  by_cases h : q = 0
  · rw [if_neg (by rw [num_pos]; simp [h]), if_pos h]
    by_cases h2 : p = 0
    · rw [if_neg (by rw [num_pos]; simp [h2]), if_pos h2]
      exact bind_eq (ofInt_q (z := 1) (by decide) (by decide)) rfl
    · rw [if_pos (by rw [num_pos]; exact h2), if_neg h2]
  · rw [if_pos (num_pos.2 h), if_neg h]
    have s1 := sm_mono (sm_q hp) (show 32 ≤ 4000 by decide)
    have hn : q.num ≠ 0 := fun h2 => h (Rat.num_eq_zero.1 h2)
    have s2 : sm 32 ((q3 q).1, (q3 q).2.2, (q3 q).2.1) := ⟨hq.2, hq.1⟩
    obtain ⟨v1, v2⟩ := timesN_rat (x := q3 p) (y := ((q3 q).1, (q3 q).2.2, (q3 q).2.1)) (den_ne p) (by show q.num.natAbs ≠ 0; omega)
    refine bind_eq (ratOf_q p) (bind_eq (times_q (y := ((q3 q).1, (q3 q).2.2, (q3 q).2.1)) s1 (sm_mono s2 (by decide))) (bind_eq (low_q (sm_mono (times_sm (sm_q hp) s2) (by decide)) v2) ?_))
    rw [v1, valQ_of, inv_val h, Rat.div_def]
end Go.FL
/-
  Plain laws, rat 3: sizes, negatives, rounding, signs, comparisons, sums of many.
-/
namespace Go.FL
open Go Go.Proofs

theorem clone_eq {a : List Nat} (h : a.length ≤ 35184372087808) : sCloneL a = some a := if_pos h
theorem copied_q {p : Rat} (hp : fits p) (b : Bool) : rat_copied (ofQ p) b = some ((b && decide (p ≠ 0), digs p.num.natAbs, digs p.den), 0) := by
  unfold rat_copied
  rw [ratRight_eq (ofQ_okRB hp), ofQ_right hp]
  have h1 : sCloneL (ofQ p).2.1 = some (digs p.num.natAbs) := clone_eq (Nat.le_trans hp.1 (by decide))
  have h2 : sCloneL (ofQ p).2.2 = some (digs p.den) := clone_eq (Nat.le_trans hp.2 (by decide))
  have h3 : decide (0 < ((List.length (ofQ p).2.1 : Nat) : Int)) = decide (p ≠ 0) := decide_eq_decide.2 num_pos
  cases b with
  | true => rw [Option.bind_some, if_pos rfl, if_pos rfl, h1, h2, h3]; rfl
  | false => rw [Option.bind_some, if_pos rfl, if_neg (by simp), h1, h2]; rfl
theorem neg_num_sign {p : Rat} : (!decide (p.num < 0) && decide (p ≠ 0)) = decide ((-p).num < 0) := by
  have h : p ≠ 0 ↔ p.num ≠ 0 := not_congr Rat.num_eq_zero.symm
  have h' : decide (p ≠ 0) = decide (p.num ≠ 0) := decide_eq_decide.2 h
  rw [Rat.neg_num, h']
  by_cases h1 : p.num < 0
  · rw [decide_eq_true h1, decide_eq_false (show ¬ -p.num < 0 by omega)]; rfl
  · rw [decide_eq_false h1, Bool.not_false, Bool.true_and]; exact decide_eq_decide.2 (show p.num ≠ 0 ↔ -p.num < 0 by omega)
theorem ofQ_neg (p : Rat) : ofQ (-p) = (decide ((-p).num < 0), digs p.num.natAbs, digs p.den) := by
  simp only [ofQ, Rat.neg_num, Rat.neg_den, Int.natAbs_neg]
theorem fits_neg {p : Rat} (h : fits p) : fits (-p) := by
  simp only [fits, Rat.neg_num, Rat.neg_den, Int.natAbs_neg] at h ⊢; exact h
theorem remN_eq {m n : Nat} (h : n ≠ 0) : remN m n = m % n := if_neg h
theorem divMod_q {p : Rat} (hp : fits p) : nDivMod (ofQ p).2.1 (ofQ p).2.2 = some (digs (p.num.natAbs / p.den), digs (p.num.natAbs % p.den), true) := by
  have : nDivMod (digs p.num.natAbs) (digs p.den) = some (digs (val (digs p.num.natAbs) / val (digs p.den)), digs (remN (val (digs p.num.natAbs)) (val (digs p.den))), decide (val (digs p.den) ≠ 0)) := if_pos (by
    rw [Bool.and_eq_true]; exact ⟨small_ok hp.1 (by decide), small_ok hp.2 (by decide)⟩)
  show nDivMod (digs p.num.natAbs) (digs p.den) = _
  rw [this, val_digs, val_digs, remN_eq p.den_nz, decide_eq_true p.den_nz]
theorem digs_pos_iff {n : Nat} : (0 : Int) < ((List.length (digs n) : Nat) : Int) ↔ n ≠ 0 := by
  constructor
  · rintro h rfl; rw [digs_zero] at h; simp at h
  · intro h
    have : digs n ≠ [] := fun h2 => h (digs_nil_iff.1 h2)
    have := List.length_pos_iff.2 this
    omega
theorem sum_one {n : Nat} (h : (digs n).length ≤ 100000) : nSum [digs n, [1]] = some (digs (n + 1)) := by
  have : nSum [digs n, [1]] = some (digs (([digs n, [1]].map val).sum)) := if_pos (by
    simp only [List.all_cons, List.all_nil, okL_digs h, Bool.and_true, Bool.true_and]; rfl)
  rw [this]; simp [val_digs, val]
/-- A size towards 0, or one more, with a sign. -/
theorem whole_q {p : Rat} (hp : fits p) (a : Bool) : rat_whole (ofQ p) a = some (resR ((sg (decide (p.num < 0)) (p.num.natAbs / p.den + if (a && decide (p.num.natAbs % p.den ≠ 0)) = true then 1 else 0) : Int) : Rat)) := by
  unfold rat_whole
  have hl : (digs (p.num.natAbs / p.den)).length ≤ 32 := Nat.le_trans (digs_mono (Nat.div_le_self _ _)) hp.1
  refine bind_eq (ratRight_eq (ofQ_okRB hp)) ?_
  rw [ofQ_right hp, if_pos rfl]
  refine bind_eq (divMod_q hp) ?_
  have hc : (a && decide ((0 : Int) < ((List.length (digs (p.num.natAbs % p.den)) : Nat) : Int))) = (a && decide (p.num.natAbs % p.den ≠ 0)) := by rw [decide_eq_decide.2 digs_pos_iff]
  have low : ∀ n, (digs n).length ≤ 100 → ratLowest ((digs n, [1]), (ofQ p).1) = some (resR ((sg (decide (p.num < 0)) n : Int) : Rat)) := fun n hn => by
    have := low_q (x := (decide (p.num < 0), n, 1)) ⟨by show (digs n).length ≤ _; omega, by show (digs 1).length ≤ _; rw [one_digs]; decide⟩ (show (1 : Nat) ≠ 0 by decide)
    simp only [qN, one_digs] at this
    rw [show (ofQ p).1 = decide (p.num < 0) from rfl, this]
    show some (resR (mkRat _ 1)) = _
    rw [show mkRat (sg (decide (p.num < 0)) n) 1 = ((sg (decide (p.num < 0)) n : Int) : Rat) by
      refine Rat.ext ?_ ?_
      · rw [Rat.num_mkRat]; simp
      · rw [Rat.den_mkRat]; simp]
  simp only [hc]
  by_cases h : (a && decide (p.num.natAbs % p.den ≠ 0)) = true
  · rw [if_pos h, if_pos h]
    refine bind_eq ratOne_eq (bind_eq (sum_one (by omega)) (bind_eq ratOne_eq (bind_eq (low _ ?_) rfl)))
    exact Nat.le_trans (add_len (k := 32) hl (by rw [one_digs]; decide)) (by decide)
  · rw [if_neg h, if_neg h]
    exact bind_eq ratOne_eq (bind_eq (low _ (by omega)) rfl)
theorem floor_num (p : Rat) : p.floor = sg (decide (p.num < 0)) (p.num.natAbs / p.den + if (decide (p.num < 0) && decide (p.num.natAbs % p.den ≠ 0)) = true then 1 else 0) := by
  rw [Rat.floor_def]
  have hd : (p.den : Int) > 0 := by have := p.den_nz; omega
  have e1 := Int.mul_ediv_add_emod p.num p.den
  have e2 := Int.emod_nonneg p.num (show (p.den : Int) ≠ 0 by omega)
  have e3 := Int.emod_lt_of_pos p.num hd
  have f1 := Nat.div_add_mod p.num.natAbs p.den
  have f2 := Nat.mod_lt p.num.natAbs (show p.den > 0 by omega)
  simp only [sg, decide_eq_true_eq, Bool.and_eq_true]
  have f1' : (p.den : Int) * ((p.num.natAbs / p.den : Nat) : Int) + ((p.num.natAbs % p.den : Nat) : Int) = (p.num.natAbs : Int) := by exact_mod_cast f1
  generalize p.num.natAbs / p.den = a at *
  generalize p.num.natAbs % p.den = b at *
  by_cases h : p.num < 0
  · rw [if_pos h]
    by_cases h2 : b ≠ 0
    · rw [if_pos ⟨h, h2⟩, Int.ediv_eq_iff_of_pos hd]
      have e : -((a + 1 : Nat) : Int) * p.den = - (p.den * (a : Int)) - p.den := by grind
      rw [e]; omega
    · rw [if_neg (fun h3 => h2 h3.2), Int.ediv_eq_iff_of_pos hd]
      have e : -((a + 0 : Nat) : Int) * p.den = - (p.den * (a : Int)) := by grind
      rw [e]; omega
  · rw [if_neg h, if_neg (fun h2 => h h2.1), Int.ediv_eq_iff_of_pos hd]
    have e : ((a + 0 : Nat) : Int) * p.den = (p.den * (a : Int)) := by grind
    rw [e]; omega
theorem floor_q {p : Rat} (hp : fits p) : rat_Floor (ofQ p) = some (resR (p.floor : Rat)) := by
  unfold rat_Floor
  rw [show (ofQ p).1 = decide (p.num < 0) from rfl, whole_q hp, ← floor_num]; rfl
theorem isInt_b {a : RT} (ha : okRB a = true) (h : rightR a = false) : rat_IsInt a = some false := by
  unfold rat_IsInt; rw [ratRight_eq ha, h]; rfl
theorem equalL_eq {a b : List Nat} (ha : okL 1048576 a = true) (hb : okL 35184372087808 b = true) : sEqualL a b = some (decide (a = b)) := if_pos (by rw [ha, hb]; rfl)
theorem isInt_q {p : Rat} (hp : fits p) : rat_IsInt (ofQ p) = some (decide (p.den = 1)) := by
  unfold rat_IsInt
  rw [ratRight_eq (ofQ_okRB hp), ofQ_right hp, Option.bind_some, if_pos rfl, ratOne_eq, Option.bind_some]
  rw [show sEqualL (ofQ p).2.2 [1] = some (decide (digs p.den = [1])) from equalL_eq (small_ok hp.2 (by decide)) (by rfl), Option.bind_some, Option.bind_some]
  congr 1
  exact decide_eq_decide.2 digs_one_iff
end Go.FL
/-
  Plain laws, rat 4: comparisons; sums and products of many.
-/
namespace Go.FL
open Go Go.Proofs

theorem nCompare_eq {m n : Nat} (hm : (digs m).length ≤ 1048576) (hn : (digs n).length ≤ 1048576) : nCompare (digs m) (digs n) = some (cmpN m n) := by
  have : nCompare (digs m) (digs n) = some (cmpN (val (digs m)) (val (digs n))) := if_pos (by
    rw [Bool.and_eq_true]; exact ⟨okL_digs (by omega), okL_digs (by omega)⟩)
  rw [this, val_digs, val_digs]
/-! sums and products of many -/
def foldR (op : Rat → Rat → Rat) : Rat → List Rat → RT × Int
  | s, [] => (ofQ s, 0)
  | s, p :: ps => if fits (op s p) then foldR op (op s p) ps else bad 8
theorem foldE_q {op : Q3 → Q3 → Q3} {opR : Rat → Rat → Rat} (hop : ∀ x y : Q3, x.2.2 ≠ 0 → y.2.2 ≠ 0 → valQ (op x y) = opR (valQ x) (valQ y) ∧ (op x y).2.2 ≠ 0) : ∀ (l : List Rat) (s : Rat),
    resQ (foldE op (q3 s) (l.map ofQ)) = foldR opR s l
  | [], s => rfl
  | p :: l, s => by
    rw [List.map_cons, foldE, foldR, rq_of]
    obtain ⟨h1, h2⟩ := hop (q3 s) (q3 p) (den_ne s) (den_ne p)
    rw [show lowQ (op (q3 s) (q3 p)) = lowR (valQ (op (q3 s) (q3 p))) from lowE_rat h2, h1, valQ_of, valQ_of]
    by_cases h : fits (opR s p)
    · rw [show lowR (opR s p) = .ok (q3 (opR s p)) from if_pos h, if_pos h]
      exact foldE_q hop l _
    · rw [show lowR (opR s p) = .error 8 from if_neg h, if_neg h]
      rfl
theorem all_right {ps : List Rat} (h : ∀ p ∈ ps, fits p) : (ps.map ofQ).all rightR = true := by
  rw [List.all_map, List.all_eq_true]; intro p hp; exact ofQ_right (h p hp)
theorem all_ok {ps : List Rat} (h : ∀ p ∈ ps, fits p) : (ps.map ofQ).all okRB = true := by
  rw [List.all_map, List.all_eq_true]; intro p hp; exact ofQ_okRB (h p hp)
theorem q3_one : q3 1 = (false, 1, 1) := rfl
theorem mul_q {ps : List Rat} (h : ∀ p ∈ ps, fits p) (hl : ps.length ≤ 1048576) : ratMul (ps.map ofQ) = some (foldR (· * ·) 1 ps) := by
  have : ratMul (ps.map ofQ) = some (resQ (mulE (ps.map ofQ))) := if_pos (by rw [all_ok h, Bool.true_and]; exact decide_eq_true (by simpa using hl))
  rw [this, mulE, if_pos (all_right h), ← q3_one, foldE_q (opR := (· * ·)) fun x y => timesN_rat]
theorem mul2_q {p q : Rat} (hp : fits p) (hq : fits q) : ratMul [ofQ p, ofQ q] = some (resR (p * q)) := by
  have := mul_q (ps := [p, q]) (by simp [hp, hq]) (by simp)
  rw [show [p, q].map ofQ = [ofQ p, ofQ q] from rfl] at this
  rw [this]
  simp only [foldR, Rat.one_mul, if_pos hp, resR]
end Go.FL
