/-
  Part 3 of 4 of the proof: the contracts of the functions, the law
-/
import Derived.Test.YteiemckogcbjnaaSizesB
set_option linter.unusedVariables false
/-
  nat.product.
-/
namespace Go.FL
open Go Go.Proofs

/-- A number's limbs are added, multiplied by x, from a place on. -/
def mulRow (i x : Nat) : List Nat → Nat → List Nat → List Nat
  | [], _, xs => xs
  | y :: r, k, xs => mulRow i x r (k + 1) (addL xs (x * y) (i + k))
def prodAll (b : List Nat) : List Nat → Nat → List Nat → List Nat
  | [], _, xs => xs
  | x :: r, i, xs => prodAll b r (i + 1) (mulRow i x b 0 xs)
theorem mulRow_val (i x : Nat) : ∀ (ys : List Nat) (k : Nat) (xs : List Nat), Ok xs → val (mulRow i x ys k xs) = val xs + x * val ys * 4294967296 ^ (i + k) ∧ Ok (mulRow i x ys k xs)
  | [], k, xs, h => ⟨by simp [mulRow, val], h⟩
  | y :: r, k, xs, h => by
    obtain ⟨a1, a2⟩ := addL_val xs (x * y) (i + k) h
    obtain ⟨b1, b2⟩ := mulRow_val i x r (k + 1) _ a2
    refine ⟨?_, b2⟩
    show val (mulRow i x r (k + 1) (addL xs (x * y) (i + k))) = _
    rw [b1, a1, val, ← Nat.add_assoc i k 1, Nat.pow_succ, Nat.mul_add, Nat.add_mul, Nat.add_assoc]
    congr 2
    simp only [Nat.mul_assoc, Nat.mul_comm, Nat.mul_left_comm]
theorem prodAll_val (b : List Nat) : ∀ (a : List Nat) (i : Nat) (xs : List Nat), Ok xs → val (prodAll b a i xs) = val xs + val a * val b * 4294967296 ^ i ∧ Ok (prodAll b a i xs)
  | [], i, xs, h => ⟨by simp [prodAll, val], h⟩
  | x :: r, i, xs, h => by
    obtain ⟨a1, a2⟩ := mulRow_val i x b 0 xs h
    obtain ⟨b1, b2⟩ := prodAll_val b r (i + 1) _ a2
    refine ⟨?_, b2⟩
    show val (prodAll b r (i + 1) (mulRow i x b 0 xs)) = _
    rw [b1, a1, val, Nat.pow_succ, Nat.add_zero, Nat.add_mul, Nat.add_mul, Nat.add_assoc]
    congr 2
    simp only [Nat.mul_assoc, Nat.mul_comm, Nat.mul_left_comm]
theorem mulRow_ge (i x : Nat) : ∀ (ys : List Nat) (k : Nat) (xs : List Nat), xs.length ≤ (mulRow i x ys k xs).length
  | [], k, xs => Nat.le_refl _
  | y :: r, k, xs => Nat.le_trans (addL_ge xs (x * y) (i + k)).1 (mulRow_ge i x r (k + 1) _)
theorem prodAll_ge (b : List Nat) : ∀ (a : List Nat) (i : Nat) (xs : List Nat), xs.length ≤ (prodAll b a i xs).length
  | [], i, xs => Nat.le_refl _
  | x :: r, i, xs => Nat.le_trans (mulRow_ge i x b 0 xs) (prodAll_ge b r (i + 1) _)
theorem u64lt {x y : Nat} (hx : x < 4294967296) (hy : y < 4294967296) : x * y < 18446744069414584320 := by
  have : x * y ≤ 4294967295 * 4294967295 := Nat.mul_le_mul (by omega) (by omega)
  omega
theorem product_fn {a b : List Nat} (ha : Ok a) (hb : Ok b) (hla : a.length ≤ 524288) (hlb : b.length ≤ 524288) (hs : (prodAll b a 0 []).length ≤ 1048576) : Fn Try.prog 59 [.sl (L a), .sl (L b)] (.d (.sl (L (digs (val a * val b))))) := by
  have hv := prodAll_val b a 0 [] .nil
  refine Fn.of (rs := [.tmp 4]) (nt := 39) Try.func59 rfl rfl rfl (by simp) rfl ?_
  refine .seq ?_
  refine .region ?_
  refine asn ?_
  refine rn ?_
  refine .seq ?_
  refine .region ?_
  refine al ?_ zadder adder_cells
  refine rn ?_
  refine .mid (fun e H' => ∃ G, e = [(5, .bp 0 0)] ∧ H' = [.box [.own 49 (L (prodAll b a 0 []))]] ++ G) ?_ ?_
  · refine .seq ?_
    refine .region ?_
    refine mvd ?_
    refine ln ?_ (L_sz _) l32
    refine mvd ?_
    refine rn ?_
    refine .block ?_
    refine .loop (.gh (Gh.keep [1, 5, 10, 11, 12] rfl) ?_)
    refine AL.ind (σ := List Nat × Nat × Heap) (m := fun s => a.length - s.2.1) (e := fun s => [(1, .d (.sl (L b))), (5, .bp 0 0), (10, .d (.sl (L a))), (11, .d (.i .i64 ((L a).length : Nat))), (12, .d (.i .i64 (s.2.1 : Int)))]) (h := fun s => [.box [.own 49 (L s.1)]] ++ s.2.2)
      (I := fun s => s.2.1 ≤ a.length ∧ Ok s.1 ∧ prodAll b (a.drop s.2.1) s.2.1 s.1 = prodAll b a 0 []) ?_ ([], 0, []) ⟨by simp, .nil, rfl⟩
    rintro ⟨xs, i, G⟩ ⟨h1, h2, h3⟩ ih
    dsimp only at h1 h2 h3 ih ⊢
    refine .seq ?_
    refine .region ?_
    refine bi ?_
    refine rn ?_
    refine .seq ?_
    by_cases hi : i < a.length
    · rw [decide_eq_true (show (i:Int) < ((L a).length : Nat) by rw [L_length]; omega)]
      have hx : a[i]? = some a[i] := List.getElem?_eq_getElem hi
      have hdr : a.drop i = a[i] :: a.drop (i + 1) := List.drop_eq_getElem_cons hi
      generalize a[i] = x at hx hdr
      have hxl := ha.at hx
      rw [hdr] at h3
      replace h3 : prodAll b (a.drop (i + 1)) (i + 1) (mulRow i x b 0 xs) = prodAll b a 0 [] := h3
      have hge := prodAll_ge b (a.drop (i + 1)) (i + 1) (mulRow i x b 0 xs)
      rw [h3] at hge
      refine cndt ?_
      refine .skip ?_
      show AW _ _ _ _ _ _
      refine .seq ?_
      refine .block ?_
      refine .seq ?_
      refine .region ?_
      refine mvd ?_
      refine ix i ?_ rfl (L_at hx) rfl s32
      refine ldp ?_ a32
      refine asd ?_
      refine asd ?_
      refine rn ?_
      refine .seq ?_
      refine .region ?_
      refine mvd ?_
      refine ln ?_ (L_sz _) l32
      refine mvd ?_
      refine rn ?_
      refine .block ?_
      refine .loop (.gh (Gh.keep [1, 5, 10, 11, 12, 6, 7, 17, 18, 19] rfl) ?_)
      refine AL.ind (σ := List Nat × Nat × Heap) (m := fun s => b.length - s.2.1) (e := fun s => [(1, .d (.sl (L b))), (5, .bp 0 0), (10, .d (.sl (L a))), (11, .d (.i .i64 ((L a).length : Nat))), (12, .d (.i .i64 (i : Int))), (6, .d (.i .i64 (i : Int))), (7, .d (U x)), (17, .d (.sl (L b))), (18, .d (.i .i64 ((L b).length : Nat))), (19, .d (.i .i64 (s.2.1 : Int)))]) (h := fun s => [.box [.own 49 (L s.1)]] ++ s.2.2)
        (I := fun s => s.2.1 ≤ b.length ∧ Ok s.1 ∧ mulRow i x (b.drop s.2.1) s.2.1 s.1 = mulRow i x b 0 xs) ?_ (xs, 0, G) ⟨by simp, h2, rfl⟩
      rintro ⟨zs, k, G1⟩ ⟨g1, g2, g3⟩ ih2
      dsimp only at g1 g2 g3 ih2 ⊢
      refine .seq ?_
      refine .region ?_
      refine bi ?_
      refine rn ?_
      refine .seq ?_
      by_cases hk : k < b.length
      · rw [decide_eq_true (show (k:Int) < ((L b).length : Nat) by rw [L_length]; omega)]
        have hy : b[k]? = some b[k] := List.getElem?_eq_getElem hk
        have hdr2 : b.drop k = b[k] :: b.drop (k + 1) := List.drop_eq_getElem_cons hk
        generalize b[k] = y at hy hdr2
        have hyl := hb.at hy
        rw [hdr2] at g3
        replace g3 : mulRow i x (b.drop (k + 1)) (k + 1) (addL zs (x * y) (i + k)) = mulRow i x b 0 xs := g3
        have hge2 := mulRow_ge i x (b.drop (k + 1)) (k + 1) (addL zs (x * y) (i + k))
        rw [g3] at hge2
        have hge3 := (addL_ge zs (x * y) (i + k)).1
        have hxy := u64lt hxl hyl
        refine cndt ?_
        refine .skip ?_
        show AW _ _ _ _ _ _
        refine .seq ?_
        refine .block ?_
        refine .seq ?_
        refine .region ?_
        refine mvd ?_
        refine ix k ?_ rfl (L_at hy) rfl s32
        refine ldp ?_ a32
        refine asd ?_
        refine asd ?_
        refine rn ?_
        refine .region ?_
        refine fab ?_ fad (by decide)
        refine mvd ?_
        refine cve (x : Int) (toU64 (by omega)) ?_ u32 u64
        refine mvd ?_
        refine cve (y : Int) (toU64 (by omega)) ?_ u32 u64
        refine bie (.i .u64 ((x * y : Nat) : Int)) ?_ ?_
        · exact ⟨trivial, by rw [← Int.natCast_mul, toU64 (by omega)]⟩
        refine mvd ?_
        refine mvd ?_
        refine ad ((i + k : Nat) : Int) ?_ ?_
        · omega
        refine clg (fun G2 => ?_) (add_fn (cs := [.own 49 (L zs)]) (n0 := x * y) (at0 := i + k) rfl rfl g2 (by omega) (by omega) (by omega)) Try.call70
        refine .nil ?_
        show AW _ _ _ _ _ _
        refine .region ?_
        refine ad ((k + 1 : Nat) : Int) ?_ ?_
        · omega
        refine mvd ?_
        refine .nil ?_
        refine AL.gh (Gh.keep [1, 5, 10, 11, 12, 6, 7, 17, 18, 19] rfl) ?_
        refine AL.castH (H' := [.box [.own 49 (L (addL zs (x * y) (i + k)))]] ++ (G1 ++ G2)) (by rw [← List.append_assoc]; rfl) ?_
        exact ih2 (addL zs (x * y) (i + k), k + 1, G1 ++ G2) ⟨by show k + 1 ≤ b.length; omega, (addL_val zs (x * y) (i + k) g2).2, g3⟩ (by show b.length - (k + 1) < b.length - k; omega)
      · rw [decide_eq_false (show ¬ (k:Int) < ((L b).length : Nat) by rw [L_length]; omega)]
        have : b.drop k = [] := List.drop_eq_nil_of_le (by omega)
        rw [this] at g3
        replace g3 : zs = mulRow i x b 0 xs := g3
        refine cndf ?_
        refine .exit ?_
        show AW _ _ _ _ _ _
        refine .region ?_
        refine ad ((i + 1 : Nat) : Int) ?_ ?_
        · omega
        refine mvd ?_
        refine .nil ?_
        refine AL.gh (Gh.keep [1, 5, 10, 11, 12] rfl) ?_
        rw [g3]
        exact ih (mulRow i x b 0 xs, i + 1, G1) ⟨by show i + 1 ≤ a.length; omega, (mulRow_val i x b 0 xs h2).2, h3⟩ (by show a.length - (i + 1) < a.length - i; omega)
    · rw [decide_eq_false (show ¬ (i:Int) < ((L a).length : Nat) by rw [L_length]; omega)]
      have : a.drop i = [] := List.drop_eq_nil_of_le (by omega)
      rw [this] at h3
      replace h3 : xs = prodAll b a 0 [] := h3
      refine cndf ?_
      refine .gh (Gh.keep [5] rfl) ?_
      refine .exit ?_
      rw [h3]
      exact ⟨G, rfl, rfl⟩
  · rintro _ _ ⟨G, rfl, rfl⟩
    refine .seq ?_
    refine .region ?_
    refine fz (p := .c 0 0) ?_
    refine fab ?_ fad (by decide)
    refine ldb (cs := [.d (.sl (L (prodAll b a 0 [])))]) (c := .d (.sl (L (prodAll b a 0 [])))) rfl rfl ?_ alm
    refine cl (xs := [.sl (L (prodAll b a 0 []))]) ?_ (cut_val hv.2 (by omega)) Try.call46
    refine asd ?_
    refine rn ?_
    refine .ret ?_
    exact ⟨by rw [hv.1]; simp [val]; rfl, rfl⟩
end Go.FL
/-
  nat.product: how many limbs; nat.Product.
-/
namespace Go.FL
open Go Go.Proofs

theorem pow_lt_iff {a N : Nat} {n : Nat} (hn : n ≠ 0) (h : n * 4294967296 ^ a < 4294967296 ^ N) : a < N := by
  apply Classical.byContradiction
  intro hc
  have h1 : 4294967296 ^ N ≤ 4294967296 ^ a := Nat.pow_le_pow_right (by decide) (by omega)
  have h2 : 1 * 4294967296 ^ a ≤ n * 4294967296 ^ a := Nat.mul_le_mul_right _ (by omega)
  omega
theorem addL_fit {N : Nat} (xs : List Nat) (n at_ : Nat) (h : Ok xs) (hN : xs.length ≤ N) (hv : val xs + n * 4294967296 ^ at_ < 4294967296 ^ N) : (addL xs n at_).length ≤ N := by
  induction xs, n, at_ using addL.induct with
  | case1 xs at_ => rw [addL_zero]; exact hN
  | case2 xs n at_ hn ih =>
    have e1 := (addL_val xs n at_ h).1
    have hat : at_ < N := pow_lt_iff hn (by omega)
    have hlen := padL_length xs at_
    have hok : Ok ((padL xs at_).set at_ ((n + (padL xs at_).getD at_ 0) % 4294967296)) := (padL_ok h at_).set _ (Nat.mod_lt _ (by decide))
    rw [addL_pos hn] at e1 ⊢
    have e2 := (addL_val _ ((n + (padL xs at_).getD at_ 0) / 4294967296) (at_ + 1) hok).1
    refine ih hok ?_ ?_
    · rw [List.length_set, hlen]; omega
    · rw [← e2, e1]; exact hv
theorem mulRow_fit {N : Nat} (i x : Nat) : ∀ (ys : List Nat) (k : Nat) (xs : List Nat), Ok xs → xs.length ≤ N → val xs + x * val ys * 4294967296 ^ (i + k) < 4294967296 ^ N → (mulRow i x ys k xs).length ≤ N
  | [], k, xs, h, hN, _ => hN
  | y :: r, k, xs, h, hN, hv => by
    obtain ⟨a1, a2⟩ := addL_val xs (x * y) (i + k) h
    have e1 := (mulRow_val i x (y :: r) k xs h).1
    have e2 := (mulRow_val i x r (k + 1) _ a2).1
    have hv2 : val (addL xs (x * y) (i + k)) + x * val r * 4294967296 ^ (i + (k + 1)) < 4294967296 ^ N := by
      rw [← e2]; rw [← e1] at hv; exact hv
    exact mulRow_fit i x r (k + 1) _ a2 (addL_fit xs (x * y) (i + k) h hN (by omega)) hv2
theorem prodAll_fit {N : Nat} (b : List Nat) : ∀ (a : List Nat) (i : Nat) (xs : List Nat), Ok xs → xs.length ≤ N → val xs + val a * val b * 4294967296 ^ i < 4294967296 ^ N → (prodAll b a i xs).length ≤ N
  | [], i, xs, h, hN, _ => hN
  | x :: r, i, xs, h, hN, hv => by
    obtain ⟨a1, a2⟩ := mulRow_val i x b 0 xs h
    have e1 := (prodAll_val b (x :: r) i xs h).1
    have e2 := (prodAll_val b r (i + 1) _ a2).1
    have hv2 : val (mulRow i x b 0 xs) + val r * val b * 4294967296 ^ (i + 1) < 4294967296 ^ N := by
      rw [← e2]; rw [← e1] at hv; exact hv
    exact prodAll_fit b r (i + 1) _ a2 (mulRow_fit i x b 0 xs h hN (by omega)) hv2
theorem prodAll_len {a b : List Nat} (ha : Ok a) (hb : Ok b) : (prodAll b a 0 []).length ≤ a.length + b.length := by
  refine prodAll_fit b a 0 [] .nil (Nat.zero_le _) ?_
  have h1 := val_lt ha
  have h2 := val_lt hb
  rw [Nat.pow_add]
  simp only [val, Nat.pow_zero, Nat.mul_one, Nat.zero_add]
  exact Nat.mul_lt_mul'' h1 h2
theorem prod_fn {a b : List Nat} (ha : Ok a) (hb : Ok b) (hla : a.length ≤ 524288) (hlb : b.length ≤ 524288) : Fn Try.prog 59 [.sl (L a), .sl (L b)] (.d (.sl (L (digs (val a * val b))))) :=
  product_fn ha hb hla hlb (by have := prodAll_len ha hb; omega)
end Go.FL
/-
  glyphref01.Mul.
-/
namespace Go.FL
open Go Go.Proofs

theorem mul_step {V V' o P r q x y c D D' s : Nat} (vs : V' + o * P = V + r * P) (hs : s = o + x * y + c) (hq : s = 4294967296 * q + r) (hD : D = y + 4294967296 * D') : V' + (x * D' + q) * (P * 4294967296) = V + (x * D + c) * P := by
  grind
theorem drop_val {b : List Nat} (k : Nat) : val (b.drop k) = b.getD k 0 + 4294967296 * val (b.drop (k + 1)) := by
  by_cases h : k < b.length
  · rw [List.drop_eq_getElem_cons h, List.getD_eq_getElem?_getD, List.getElem?_eq_getElem h]; simp only [val, Option.getD_some]
  · rw [List.drop_eq_nil_of_le (by omega), List.drop_eq_nil_of_le (by omega), List.getD_eq_getElem?_getD, List.getElem?_eq_none (by omega)]; simp [val]
theorem getD_lt {b : List Nat} (h : Ok b) (k : Nat) : b.getD k 0 < 4294967296 := by
  rw [List.getD_eq_getElem?_getD]
  cases hk : b[k]? with
  | none => decide
  | some y => exact h.at hk
theorem s_lt {o x y c : Nat} (ho : o < 4294967296) (hx : x < 4294967296) (hy : y < 4294967296) (hc : c < 4294967296) : o + x * y + c < 18446744073709551616 := by
  have : x * y ≤ 4294967295 * 4294967295 := Nat.mul_le_mul (by omega) (by omega)
  omega
theorem set_val {xs : List Nat} {j o y : Nat} (h : xs[j]? = some o) : val (xs.set j y) + o * 4294967296 ^ j = val xs + y * 4294967296 ^ j := val_set h
/-- In a product there is room for the carry. -/
theorem mul_room {V c x D P T N j : Nat} (h : V + (x * D + c) * P ≤ T) (hP : P = 4294967296 ^ j) (hT : T < 4294967296 ^ N) (hc : c ≠ 0) : j < N := by
  refine pow_lt_iff hc ?_
  have h1 : c * 4294967296 ^ j ≤ (x * D + c) * P := by rw [hP]; exact Nat.mul_le_mul_right _ (by omega)
  omega
theorem rep_val : ∀ n, val (List.replicate n 0) = 0
  | 0 => rfl
  | n + 1 => by rw [List.replicate_succ, val, rep_val n]
theorem rep_ok (n : Nat) : Ok (List.replicate n 0) := fun x hx => by rw [List.eq_of_mem_replicate hx]; decide

theorem Mul_fn {a b : List Nat} (ha : Ok a) (hb : Ok b) (hla : a.length ≤ 400000) (hlb : b.length ≤ 400000) : Fn Try.prog 62 [.sl (L a), .sl (L b)] (.own 49 (L (digs (val a * val b)))) := by
  have hT : val a * val b < 4294967296 ^ (a.length + b.length) := by
    rw [Nat.pow_add]; exact Nat.mul_lt_mul'' (val_lt ha) (val_lt hb)
  refine Fn.of (rs := [.tmp 4]) (nt := 63) Try.func62 rfl rfl rfl (by simp) rfl ?_
  refine .seq ?_
  refine .region ?_
  refine asn ?_
  refine rn ?_
  refine .seq ?_
  refine .region ?_
  refine mvd ?_
  refine ln ?_ (L_sz _) l32
  refine mvd ?_
  refine ln ?_ (L_sz _) l32
  refine ad ((a.length + b.length : Nat) : Int) ?_ ?_
  · rw [L_length, L_length]; omega
  refine ad ((a.length + b.length + 1 : Nat) : Int) ?_ ?_
  · omega
  refine mk (a.length + b.length + 1) ⟨rfl, rfl⟩ ?_ ?_ e32 rfl
  · omega
  refine aso ?_
  refine rn ?_
  refine .mid (fun e H' => ∃ out, e = [(5, .own 49 (L out))] ∧ H' = [] ∧ Ok out ∧ out.length = a.length + b.length + 1 ∧ val out = val a * val b) ?_ ?_
  · refine .seq ?_
    refine .region ?_
    refine asd ?_
    refine rn ?_
    refine .block ?_
    refine .loop (.gh (Gh.keep [0, 1, 5, 6] rfl) ?_)
    refine AL.cast (env' := [(0, .d (.sl (L a))), (1, .d (.sl (L b))), (5, .own 49 (L (List.replicate (a.length + b.length + 1) 0))), (6, .d (.i .i64 ((0 : Nat) : Int)))]) (by simp [L]; rfl) ?_
    refine AL.ind (σ := List Nat × Nat) (m := fun s => a.length - s.2) (e := fun s => [(0, .d (.sl (L a))), (1, .d (.sl (L b))), (5, .own 49 (L s.1)), (6, .d (.i .i64 (s.2 : Int)))]) (h := fun _ => [])
      (I := fun s => Ok s.1 ∧ s.1.length = a.length + b.length + 1 ∧ s.2 ≤ a.length ∧ val s.1 + val (a.drop s.2) * val b * 4294967296 ^ s.2 = val a * val b) ?_ (List.replicate (a.length + b.length + 1) 0, 0) ⟨rep_ok _, by simp, Nat.zero_le _, by simp [rep_val]⟩
    rintro ⟨out, i⟩ ⟨h1, h2, h3, h4⟩ ih
    dsimp only at h1 h2 h3 h4 ih ⊢
    refine .seq ?_
    refine .seq ?_
    refine .region ?_
    refine mvd ?_
    refine mvd ?_
    refine ln ?_ (L_sz _) l32
    refine bi ?_
    refine rn ?_
    by_cases hi : i < a.length
    · rw [decide_eq_true (show (i : Int) < ((L a).length : Nat) by rw [L_length]; omega)]
      have hx : a[i]? = some a[i] := List.getElem?_eq_getElem hi
      have hdr : val (a.drop i) = a[i] + 4294967296 * val (a.drop (i + 1)) := by rw [List.drop_eq_getElem_cons hi, val]
      generalize a[i] = x at hx hdr
      have hxl := ha.at hx
      refine cndt ?_
      refine .skip ?_
      show AW _ _ _ _ _ _
      refine .seq ?_
      refine .block ?_
      refine .seq ?_
      refine .region ?_
      refine asd ?_
      refine rn ?_
      refine .seq ?_
      refine .region ?_
      refine asd ?_
      refine rn ?_
      refine .block ?_
      refine .loop (.gh (Gh.keep [0, 1, 5, 6, 7, 8] rfl) ?_)
      refine AL.ind (σ := List Nat × Nat × Nat) (m := fun s => a.length + b.length - i - s.2.1) (e := fun s => [(0, .d (.sl (L a))), (1, .d (.sl (L b))), (5, .own 49 (L s.1)), (6, .d (.i .i64 (i : Int))), (7, .d (.i .u64 (s.2.2 : Int))), (8, .d (.i .i64 (s.2.1 : Int)))]) (h := fun _ => [])
        (I := fun s => Ok s.1 ∧ s.1.length = a.length + b.length + 1 ∧ s.2.2 < 4294967296 ∧ val s.1 + (x * val (b.drop s.2.1) + s.2.2) * 4294967296 ^ (i + s.2.1) = val out + x * val b * 4294967296 ^ i) ?_ (out, 0, 0) ⟨h1, h2, by simp, by simp⟩
      rintro ⟨xs, k, c⟩ ⟨g1, g2, g3, g4⟩ ih2
      dsimp only at g1 g2 g3 g4 ih2 ⊢
      have hTle : val xs + (x * val (b.drop k) + c) * 4294967296 ^ (i + k) ≤ val a * val b := by
        rw [g4, ← h4, hdr, Nat.add_mul, Nat.add_mul]; omega
      refine .mid (fun e H' => H' = [] ∧ i + k < a.length + b.length ∧ e = [(0, .d (.sl (L a))), (1, .d (.sl (L b))), (5, .own 49 (L xs)), (6, .d (.i .i64 (i : Int))), (7, .d (.i .u64 (c : Int))), (8, .d (.i .i64 (k : Int)))]) ?_ ?_
      · refine .seq ?_
        refine .region ?_
        refine mvd ?_
        refine mvd ?_
        refine ln ?_ (L_sz _) l32
        refine bi ?_
        refine mvd ?_
        by_cases hk : k < b.length
        · rw [decide_eq_true (show (k : Int) < ((L b).length : Nat) by rw [L_length]; omega)]
          refine gf ?_
          refine gf ?_
          refine pkd ?_
          refine rn ?_
          refine cndt ?_
          refine .gh (Gh.keep [0, 1, 5, 6, 7, 8] rfl) ?_
          refine .skip ?_
          exact ⟨rfl, by omega, rfl⟩
        · rw [decide_eq_false (show ¬ (k : Int) < ((L b).length : Nat) by rw [L_length]; omega)]
          refine mvd ?_
          refine bi ?_
          refine pkd ?_
          refine rn ?_
          by_cases hc : c = 0
          · subst hc
            refine cndf ?_
            refine .gh (Gh.keep [0, 1, 5, 6] rfl) ?_
            refine .exit ?_
            show AW _ _ _ _ _ _
            rw [List.drop_eq_nil_of_le (by omega)] at g4
            simp only [val, Nat.mul_zero, Nat.zero_mul, Nat.add_zero] at g4
            refine .region ?_
            refine mvd ?_
            refine ad ((i + 1 : Nat) : Int) ?_ ?_
            · omega
            refine asd ?_
            refine rn ?_
            refine .gh (Gh.keep [0, 1, 5, 6] rfl) ?_
            refine ih (xs, i + 1) ⟨g1, g2, by dsimp only; omega, ?_⟩ (by dsimp only; omega)
            dsimp only
            rw [g4, ← h4, hdr, Nat.pow_succ]
            grind
          · rw [decide_eq_true (show (0 : Int) < (c : Int) by omega)]
            have := mul_room hTle rfl hT hc
            refine cndt ?_
            refine .gh (Gh.keep [0, 1, 5, 6, 7, 8] rfl) ?_
            refine .skip ?_
            exact ⟨rfl, this, rfl⟩
      rintro _ _ ⟨rfl, hik, rfl⟩
      have ho : xs[i + k]? = some xs[i + k] := List.getElem?_eq_getElem (by omega)
      generalize xs[i + k] = o at ho
      have hol := g1.at ho
      have hyl := getD_lt hb k
      have hdb := drop_val (b := b) k
      have hlim := limb_fn (a := b) hb (i := k) (by omega)
      generalize b.getD k 0 = y at *
      have hs := s_lt hol hxl hyl g3
      have hset := set_val ho (y := (o + x * y + c) % 4294967296)
      have hstep := mul_step (x := x) (y := y) (c := c) (s := o + x * y + c) (q := (o + x * y + c) / 4294967296) hset rfl (Nat.div_add_mod _ _).symm hdb
      have hxy := u64lt hxl hyl
      refine .seq ?_
      refine .block ?_
      refine .seq ?_
      refine .drawn 19 mixed (by kernel_rfl) ?_
      refine dv vmvo ?_
      refine dv vmvd ?_
      refine dv vmvd ?_
      refine dv (vad ((i + k : Nat) : Int) ?_) ?_
      · omega
      refine dv (vixr (i + k) ?_ ?_ s32 (by decide)) ?_
      · rfl
      · rw [L_length, g2]; omega
      refine dv (vlde (U o) ?_ a32) ?_
      · rw [Nat.zero_add]; exact L_at' ho
      refine dv (vcve (o : Int) (toU64 (by omega)) u32 u64) ?_
      refine dv vmvd ?_
      refine dv vmvd ?_
      refine dv (vix i rfl (L_at hx) rfl s32) ?_
      refine dv (vldp a32) ?_
      refine dv (vcve (x : Int) (toU64 (by omega)) u32 u64) ?_
      refine dv vmvd ?_
      refine dv vmvd ?_
      refine dv (v := .d (.i .u64 (y : Int))) (vcl (xs := [.sl (L b), .i .i64 (k : Int)]) hlim Try.call65) ?_
      refine dv (vbie (.i .u64 ((x * y : Nat) : Int)) ?_) ?_
      · exact ⟨trivial, by rw [← Int.natCast_mul, toU64 (by omega)]⟩
      refine dv (vbie (.i .u64 ((o + x * y : Nat) : Int)) ?_) ?_
      · exact ⟨trivial, by rw [← Int.natCast_add, toU64 (by omega)]⟩
      refine dv vmvd ?_
      refine dv (vbie (.i .u64 ((o + x * y + c : Nat) : Int)) ?_) ?_
      · exact ⟨trivial, by rw [← Int.natCast_add, toU64 (by omega)]⟩
      refine dz ?_
      generalize o + x * y + c = s at *
      refine asd ?_
      refine rn ?_
      refine .gh (Gh.keep [0, 1, 5, 6, 7, 8, 9] rfl) ?_
      refine .seq ?_
      refine .region ?_
      refine mvo ?_
      refine mvd ?_
      refine mvd ?_
      refine ad ((i + k : Nat) : Int) ?_ ?_
      · omega
      refine mvd ?_
      refine cve ((s % 4294967296 : Nat) : Int) (wrapU32 _) ?_ u64 u32
      refine ixr (i + k) ?_ ?_ ?_ s32 (by decide)
      · rfl
      · rw [L_length, g2]; omega
      refine ste ?_ ?_ z32
      · rw [Nat.zero_add]; exact L_leaf ho
      refine .nil ?_
      show AW _ _ _ _ _ _
      refine .region ?_
      refine mvd ?_
      refine bie (.i .u64 ((s / 4294967296 : Nat) : Int)) ?_ ?_
      · simp [IntKind.bits]
      refine asd ?_
      refine .nil ?_
      show AW _ _ _ _ _ _
      refine .region ?_
      refine mvd ?_
      refine ad ((k + 1 : Nat) : Int) ?_ ?_
      · omega
      refine asd ?_
      refine rn ?_
      refine .gh (Gh.keep [0, 1, 5, 6, 7, 8] rfl) ?_
      have := ih2 (xs.set (i + k) (s % 4294967296), k + 1, s / 4294967296) ⟨g1.set _ (Nat.mod_lt _ (by decide)), by dsimp only; rw [List.length_set]; exact g2, by dsimp only; omega, ?_⟩ (by dsimp only; omega)
      · dsimp only at this
        rw [← L_set, ← Nat.zero_add (i + k)] at this
        exact this
      · dsimp only
        rw [← g4, ← hstep, show i + (k + 1) = i + k + 1 by omega, Nat.pow_succ]
    · rw [decide_eq_false (show ¬ (i : Int) < ((L a).length : Nat) by rw [L_length]; omega)]
      refine cndf ?_
      refine .gh (Gh.keep [5] rfl) ?_
      refine .exit ?_
      refine ⟨out, rfl, rfl, h1, h2, ?_⟩
      rw [List.drop_eq_nil_of_le (by omega)] at h4
      simpa [val] using h4
  rintro _ _ ⟨out, rfl, rfl, h1, h2, h3⟩
  refine .seq ?_
  refine .region ?_
  refine fz (p := .t 5) ?_
  refine mvd ?_
  refine cl (xs := [.sl (L out)]) ?_ (refTrim_fn h1 (by omega)) Try.call27
  rw [h3]
  refine aso ?_
  refine rn ?_
  refine .ret ?_
  exact ⟨rfl, rfl⟩
end Go.FL
/-
  nat.Compare.
-/
namespace Go.FL
open Go Go.Proofs

def cmpN (m n : Nat) : Int := if m < n then -1 else if m = n then 0 else 1
theorem digs_lt {m n : Nat} (h : (digs m).length < (digs n).length) : m < n := by
  rcases Nat.lt_or_ge m n with h1 | h1
  · exact h1
  · have h2 := val_lt (digs_ok m)
    rw [val_digs] at h2
    have := digs_len (n := n) (k := (digs m).length) (by omega)
    omega
/-- Behind equal limbs, the limb decides. -/
theorem cmp_at {xs ys : List Nat} (hx : Ok xs) (hy : Ok ys) {i : Nat} (h : xs.drop (i + 1) = ys.drop (i + 1)) {x y : Nat} (h1 : xs[i]? = some x) (h2 : ys[i]? = some y) (hxy : x < y) : val xs < val ys := by
  have hxl : i < xs.length := (List.getElem?_eq_some_iff.1 h1).1
  have hyl : i < ys.length := (List.getElem?_eq_some_iff.1 h2).1
  have ex : xs = xs.take i ++ x :: xs.drop (i + 1) := by
    have := List.getElem?_eq_some_iff.1 h1
    rw [← this.2, ← List.drop_eq_getElem_cons hxl, List.take_append_drop]
  have ey : ys = ys.take i ++ y :: ys.drop (i + 1) := by
    have := List.getElem?_eq_some_iff.1 h2
    rw [← this.2, ← List.drop_eq_getElem_cons hyl, List.take_append_drop]
  have lx : (xs.take i).length = i := by rw [List.length_take]; omega
  have ly : (ys.take i).length = i := by rw [List.length_take]; omega
  have vx := val_lt (hx.take i)
  rw [ex, ey, val_append, val_append, lx, ly, h]
  rw [lx] at vx
  simp only [val]
  have h3 : 4294967296 ^ i * (x + 4294967296 * val (ys.drop (i + 1))) + 4294967296 ^ i ≤ 4294967296 ^ i * (y + 4294967296 * val (ys.drop (i + 1))) := by
    rw [← Nat.mul_succ]
    exact Nat.mul_le_mul_left _ (by omega)
  omega
theorem Compare_fn {a b : List Nat} (ha : Ok a) (hb : Ok b) (hla : a.length ≤ 35184372087808) (hlb : b.length ≤ 35184372087808) : Fn Try.prog 30 [.sl (L a), .sl (L b)] (.d (.i .i64 (cmpN (val a) (val b)))) := by
  have dla := Nat.le_trans (digs_len_le ha) hla
  have dlb := Nat.le_trans (digs_len_le hb) hlb
  have va := val_digs (val a)
  have vb := val_digs (val b)
  have oa := digs_ok (val a)
  have ob := digs_ok (val b)
  have lt1 := @digs_lt (val a) (val b)
  have lt2 := @digs_lt (val b) (val a)
  refine Fn.of (rs := [.tmp 4]) (nt := 47) Try.func30 rfl rfl rfl (by simp) rfl ?_
  refine .seq ?_
  refine .region ?_
  refine asd ?_
  refine rn ?_
  refine .seq ?_
  refine .region ?_
  refine mvd ?_
  refine cl (xs := [.sl (L a)]) ?_ (cut_fn a (by omega)) Try.call46
  refine mvd ?_
  refine cl (xs := [.sl (L b)]) ?_ (cut_fn b (by omega)) Try.call46
  refine asd ?_
  refine asd ?_
  refine rn ?_
  rw [cutL_val ha, cutL_val hb]
  generalize digs (val a) = xs at *
  generalize digs (val b) = ys at *
  refine .seq ?_
  refine .seq ?_
  refine .region ?_
  refine mvd ?_
  refine ln ?_ (L_sz _) l32
  refine mvd ?_
  refine ln ?_ (L_sz _) l32
  refine bi ?_
  refine rn ?_
  by_cases hlen : xs.length = ys.length
  · have e1 : (!decide (((L xs).length : Int) = ((L ys).length : Int))) = false := by simp [L_length]; omega
    rw [e1]
    refine cndf ?_
    refine .skip ?_
    show AW _ _ _ _ _ _
    refine .seq ?_
    refine .seq ?_
    refine .region ?_
    refine mvd ?_
    refine ln ?_ (L_sz _) l32
    refine su ((xs.length : Int) - 1) ?_ ?_
    · rw [L_length]; omega
    refine asd ?_
    refine rn ?_
    refine .block ?_
    refine .loop (.gh (Gh.keep [0, 1, 5] rfl) ?_)
    refine AL.ind (σ := Nat) (m := fun i => i) (e := fun i => [(0, .d (.sl (L xs))), (1, .d (.sl (L ys))), (5, .d (.i .i64 ((i : Int) - 1)))]) (h := fun _ => [])
      (I := fun i => i ≤ xs.length ∧ xs.drop i = ys.drop i) ?_ xs.length ⟨Nat.le_refl _, by rw [List.drop_of_length_le (Nat.le_refl _), List.drop_of_length_le (by omega)]⟩
    rintro i ⟨h1, h2⟩ ih
    refine .seq ?_
    refine .seq ?_
    refine .region ?_
    refine mvd ?_
    refine bi ?_
    refine rn ?_
    cases i with
    | zero =>
      rw [decide_eq_false (show ¬ (0 : Int) ≤ ((0 : Nat) : Int) - 1 by omega)]
      refine cndf ?_
      refine .exit ?_
      show AW _ _ _ _ _ _
      refine .seq ?_
      refine .region ?_
      refine asd ?_
      refine rn ?_
      refine .ret ?_
      simp only [List.drop_zero] at h2
      subst h2
      exact ⟨by rw [← va, ← vb]; unfold cmpN; rw [if_neg (by omega), if_pos rfl]; rfl, rfl⟩
    | succ i =>
      have hx : xs[i]? = some xs[i] := List.getElem?_eq_getElem (by omega)
      have hy : ys[i]? = some ys[i] := List.getElem?_eq_getElem (by omega)
      have hdx : xs.drop i = xs[i] :: xs.drop (i + 1) := List.drop_eq_getElem_cons (by omega)
      have hdy : ys.drop i = ys[i] :: ys.drop (i + 1) := List.drop_eq_getElem_cons (by omega)
      generalize xs[i] = x at hx hdx
      generalize ys[i] = y at hy hdy
      rw [decide_eq_true (show (0 : Int) ≤ ((i + 1 : Nat) : Int) - 1 by omega)]
      refine cndt ?_
      refine .skip ?_
      show AW _ _ _ _ _ _
      refine .gh (Gh.keep [0, 1, 5] rfl) ?_
      refine .seq ?_
      refine .block ?_
      refine .seq ?_
      refine .drawn 9 mixed (by kernel_rfl) ?_
      refine dv vmvd ?_
      refine dv vmvd ?_
      refine dv (vix (z := ((i + 1 : Nat) : Int) - 1) i (by omega) (L_at hx) rfl s32) ?_
      refine dv (vldp a32) ?_
      refine dv vmvd ?_
      refine dv vmvd ?_
      refine dv (vix (z := ((i + 1 : Nat) : Int) - 1) i (by omega) (L_at hy) rfl s32) ?_
      refine dv (vldp a32) ?_
      refine dv vbi ?_
      refine dz ?_
      refine rn ?_
      by_cases hxy : x = y
      · subst hxy
        have e1 : (!decide ((x : Int) = (x : Int))) = false := by simp
        rw [e1]
        refine cndf ?_
        refine .skip ?_
        show AW _ _ _ _ _ _
        refine .gh (Gh.keep [0, 1, 5] rfl) ?_
        refine .region ?_
        refine mvd ?_
        refine su ((i : Int) - 1) ?_ ?_
        · omega
        refine asd ?_
        refine rn ?_
        refine .gh (Gh.keep [0, 1, 5] rfl) ?_
        exact ih i ⟨by omega, by rw [hdx, hdy, h2]⟩ (by omega)
      · have e1 : (!decide ((x : Int) = (y : Int))) = true := by simp; omega
        rw [e1]
        refine cndt ?_
        refine .seq ?_
        refine .seq ?_
        refine .gh (Gh.keep [0, 1, 5] rfl) ?_
        refine .drawn 9 mixed (by kernel_rfl) ?_
        refine dv vmvd ?_
        refine dv vmvd ?_
        refine dv (vix (z := ((i + 1 : Nat) : Int) - 1) i (by omega) (L_at hx) rfl s32) ?_
        refine dv (vldp a32) ?_
        refine dv vmvd ?_
        refine dv vmvd ?_
        refine dv (vix (z := ((i + 1 : Nat) : Int) - 1) i (by omega) (L_at hy) rfl s32) ?_
        refine dv (vldp a32) ?_
        refine dv vbi ?_
        refine dz ?_
        refine rn ?_
        by_cases hlt : x < y
        · rw [decide_eq_true (show (x : Int) < (y : Int) by omega)]
          refine cndt ?_
          refine .seq ?_
          refine .region ?_
          refine asd ?_
          refine rn ?_
          refine .ret ?_
          have := cmp_at oa ob h2 hx hy hlt
          exact ⟨by unfold cmpN; rw [if_pos (by omega)]; rfl, rfl⟩
        · rw [decide_eq_false (show ¬ (x : Int) < (y : Int) by omega)]
          refine cndf ?_
          refine .skip ?_
          show AW _ _ _ _ _ _
          refine .seq ?_
          refine .region ?_
          refine asd ?_
          refine rn ?_
          refine .ret ?_
          have := cmp_at ob oa h2.symm hy hx (by omega)
          exact ⟨by unfold cmpN; rw [if_neg (by omega), if_neg (by omega)]; rfl, rfl⟩
  · have e1 : (!decide (((L xs).length : Int) = ((L ys).length : Int))) = true := by simp [L_length]; omega
    rw [e1]
    refine cndt ?_
    refine .seq ?_
    refine .region ?_
    refine mvd ?_
    refine ln ?_ (L_sz _) l32
    refine mvd ?_
    refine ln ?_ (L_sz _) l32
    refine su ((xs.length : Int) - ys.length) ?_ ?_
    · rw [L_length, L_length]; omega
    refine mx ?_
    refine mn ?_
    refine asd ?_
    refine rn ?_
    refine .ret ?_
    refine ⟨?_, rfl⟩
    show AV.d (.i .i64 _) = _
    congr 2
    unfold cmpN
    by_cases hl : xs.length < ys.length
    · have h1 := lt1 hl
      rw [if_pos h1]
      have hd : (xs.length : Int) - ys.length ≤ -1 := by omega
      generalize (xs.length : Int) - ys.length = d at hd
      have e2 : (if d < -1 then (-1 : Int) else d) = -1 := by split <;> omega
      rw [e2]; rfl
    · have h1 := lt2 (by omega)
      rw [if_neg (show ¬ val a < val b by omega), if_neg (show ¬ val a = val b by omega)]
      have hd : 1 ≤ (xs.length : Int) - ys.length := by omega
      generalize (xs.length : Int) - ys.length = d at hd
      have e2 : (if d < -1 then (-1 : Int) else d) = d := if_neg (by omega)
      rw [e2]
      split <;> omega
end Go.FL
/-
  A FUNCTIONAL LOGIC, 25: a range over a function: rounds of a body in a frame of its own, over an iterator that makes nothing.
-/
namespace Go.FL
open Go Go.RowKit

/-- An iterator that makes nothing: with these captures it yields ys one after the other, if each round goes on. -/
def It (P : Program) (f : FuncId) (caps : List DV) (ys : List (List DV)) : Prop :=
  ∀ (l : Nat) (W : World) (I : Nat → Prop) (cv : List Value) (J : Nat → World → Prop), (∀ k W', J k W' → ∀ b, I b → W'.heap[b]? = W.heap[b]?) → RepAll W I caps cv →
    (∀ k W1 ds vs, J k W1 → ys[k]? = some ds → RepAll W1 I ds vs → YieldAt (om none) 0 P l vs.toArray W1 fun e W' => e = .returned (.bool true) ∧ J (k + 1) W') → J 0 W →
    CallsIn (om none) 0 P f (#[.func (.yield l) #[] #[]] ++ cv.toArray) W fun e W' => (∃ v, e = .returned v) ∧ J ys.length W'

def Marks (K : Nat → Prop) (w : World) (I : Nat → Prop) (O : Nat → Option Loc) (ms : List Deferred) : Prop :=
  ms.Nodup ∧ ∀ m ∈ ms, ∃ D, m = { target := .collected D, args := #[] } ∧ w.heap[D]? = some (.deferred (some [])) ∧ O D = none ∧ ¬ I D ∧ ¬ K D
theorem Marks.nil {K : Nat → Prop} {w : World} {I : Nat → Prop} {O : Nat → Option Loc} : Marks K w I O [] := ⟨List.nodup_nil, fun m hm => by simp at hm⟩
/-- What stands behind code that may leave marks of loops. -/
def PostM (P : Program) (X : Snap) (Q : Exit → Env → Heap → Prop) : Exit → Act → World → Prop := fun e a w =>
  ∃ env H I μ O ms, Sim P { X with dfs := ms ++ X.dfs } env H a w I μ O ∧ Q e env H ∧ Marks X.K w I O ms
def AWM (P : Program) (C : Cx) (c : Code) (Q : Exit → Env → Heap → Prop) (env : Env) (H : Heap) : Prop :=
  ∀ X a w I μ O, X.nt = C.nt → X.n0 = C.n0 → X.ne = C.ne → Sim P X env H a w I μ O → c.wpIn (om C.ro) 0 P (PostM P X Q) a w

section
variable {P : Program} {C : Cx} {X : Snap} {Q : Exit → Env → Heap → Prop} {env env' : Env} {H H' : Heap} {a : Act} {w w' : World} {I I' : Nat → Prop} {μ μ' : List Nat} {O O' : Nat → Option Loc}

theorem Sim.recast {Y : Snap} (hs : Sim P X env H a w I μ O) (hm : Mem P Y H w I μ O) (h1 : Y.nt = X.nt) (h2 : Y.dfs = X.dfs) (h3 : Y.args = X.args) : Sim P Y env H a w I μ O :=
  ⟨hm, hs.envr, by rw [h1]; exact hs.nt, by rw [h1, h2, h3]; exact hs.dfs⟩
theorem Post.toM {e : Exit} (h : Post P X Q e a w) : PostM P X Q e a w := by
  obtain ⟨env, H, I, μ, O, s, q⟩ := h
  exact ⟨env, H, I, μ, O, [], s, q, .nil⟩
theorem AWM.lift {c : Code} (h : AW P C c Q env H) : AWM P C c Q env H := fun X a w I μ O h1 h2 h3 hs =>
  wpIn_mono (h X a w I μ O h1 h2 h3 hs) fun _ _ _ hp => hp.toM
theorem AWM.seqA {x y : Code} (h : AW P C x (thenQ (AWM P C y Q) Q) env H) : AWM P C (.seq x y) Q env H := fun X a w I μ O h1 h2 h3 hs =>
  wpIn_seq (wpIn_mono (h X a w I μ O h1 h2 h3 hs) fun e _ _ ⟨env', H', I', μ', O', s, q⟩ => by
    cases e with
    | normal => exact q X _ _ I' μ' O' h1 h2 h3 s
    | _ => exact ⟨env', H', I', μ', O', [], s, q, .nil⟩)
theorem Mem.reroot {K' : Nat → Prop} (h : Mem P X H w I μ O) (h0 : X.n0 = 0) (hK : ∀ b, K' b → O b = none ∧ b < w.heap.size) : Mem P { X with w := w, I := I, μ := μ, K := K' } H w I μ O where
  prot := fun _ _ => rfl
  kO := fun b hb => (hK b hb).1
  kI := fun _ _ h => h
  mono := fun _ h => h
  os := rfl
  tape := rfl
  output := rfl
  size := Nat.le_refl _
  own := h.own
  ilt := h.ilt
  μlen := h.μlen
  μpre := fun _ _ _ h => h
  nle := h.nle
  heap := fun id o ho => by
    obtain ⟨blk, bs, g1, g2, g3, _⟩ := h.heap id o ho
    exact ⟨blk, bs, g1, g2, g3, fun hlt => absurd hlt (by simp [h0])⟩
  klt := fun b hb => (hK b hb).2
  n0le := h.n0le
/-- What held since a later beginning holds since the first. -/
theorem Mem.unroot {K' : Nat → Prop} (h : Mem P X H w I μ O) (h0 : X.n0 = 0) (hK : ∀ b, X.K b → K' b) {w2 : World} {H2 : Heap} {I2 : Nat → Prop} {μ2 : List Nat} {O2 : Nat → Option Loc}
    (h2 : Mem P { X with w := w, I := I, μ := μ, K := K' } H2 w2 I2 μ2 O2) : Mem P X H2 w2 I2 μ2 O2 where
  prot := fun b hb => (h2.prot b (hK b hb)).trans (h.prot b hb)
  kO := fun b hb => h2.kO b (hK b hb)
  kI := fun b hb hi => h.kI b hb (h2.kI b (hK b hb) hi)
  mono := fun b hb => h2.mono b (h.mono b hb)
  os := h2.os.trans h.os
  tape := h2.tape.trans h.tape
  output := h2.output.trans h.output
  size := Nat.le_trans h.size h2.size
  own := h2.own
  ilt := h2.ilt
  μlen := h2.μlen
  μpre := fun i b hi hb => h2.μpre i b hi (h.μpre i b hi hb)
  nle := h2.nle
  heap := fun id o ho => by
    obtain ⟨blk, bs, g1, g2, g3, _⟩ := h2.heap id o ho
    exact ⟨blk, bs, g1, g2, g3, fun hlt => absurd hlt (by simp [h0])⟩
  klt := h.klt
  n0le := h.n0le
theorem AWM.seq (h0 : C.n0 = 0) {x y : Code} (h : AWM P C x (thenQ (AWM P C y Q) Q) env H) : AWM P C (.seq x y) Q env H := fun X a w I μ O h1 h2 h3 hs =>
  wpIn_seq (wpIn_mono (h X a w I μ O h1 h2 h3 hs) fun e a1 w1 ⟨env', H', I', μ', O', ms, s, q, hm⟩ => by
    cases e with
    | normal =>
      have hX0 : X.n0 = 0 := by omega
      obtain ⟨K', hKd⟩ : ∃ K' : Nat → Prop, K' = fun b => X.K b ∨ ∃ m ∈ ms, m = { target := .collected b, args := #[] } := ⟨_, rfl⟩
      have hK' : ∀ b, K' b → O' b = none ∧ b < w1.heap.size := fun b hb => by
        rw [hKd] at hb
        rcases hb with hb | ⟨m, hm1, hm2⟩
        · exact ⟨s.kO b hb, Nat.lt_of_lt_of_le (s.klt b hb) s.size⟩
        · obtain ⟨D, e1, e2, e3, e4, _⟩ := hm.2 m hm1
          rw [hm2] at e1; simp at e1; subst e1
          exact ⟨e3, (Array.getElem?_eq_some_iff.1 e2).1⟩
      have hr := s.recast (s.toMem.reroot hX0 hK') rfl rfl rfl
      refine wpIn_mono (q { X with w := w1, I := I', K := K', μ := μ', dfs := ms ++ X.dfs } a1 w1 I' μ' O' h1 h2 h3 hr) fun e a2 w2 ⟨env2, H2, I2, μ2, O2, ms2, s2, q2, hm2⟩ => ?_
      refine ⟨env2, H2, I2, μ2, O2, ms2 ++ ms, ?_, q2, ?_⟩
      · have hu : Mem P X H2 w2 I2 μ2 O2 := (s.toMem.cast (Y := X) rfl rfl rfl rfl rfl rfl).unroot hX0 (K' := K') (fun b hb => by rw [hKd]; exact .inl hb) (s2.toMem.cast rfl rfl rfl rfl rfl rfl)
        exact ⟨hu.cast rfl rfl rfl rfl rfl rfl, s2.envr, s2.nt, by rw [s2.dfs.1]; simp, s2.dfs.2⟩
      · refine ⟨List.nodup_append.2 ⟨hm2.1, hm.1, fun x hx y hy e => ?_⟩, fun m hmm => ?_⟩
        · subst e
          obtain ⟨D, rfl, _, _, _, hk⟩ := hm2.2 x hx
          exact hk (by show K' D; rw [hKd]; exact .inr ⟨_, hy, rfl⟩)
        rcases List.mem_append.1 hmm with hmm | hmm
        · obtain ⟨D, e1, e2, e3, e4, e5⟩ := hm2.2 m hmm
          exact ⟨D, e1, e2, e3, e4, fun hk => e5 (by show K' D; rw [hKd]; exact .inl hk)⟩
        · obtain ⟨D, rfl, e2, e3, e4, e5⟩ := hm.2 m hmm
          have hkD : K' D := by rw [hKd]; exact .inr ⟨_, hmm, rfl⟩
          exact ⟨D, rfl, (s2.prot D hkD).trans e2, s2.kO D hkD, fun hi => e4 (s2.kI D hkD hi), e5⟩
    | _ => exact ⟨env', H', I', μ', O', ms, s, q, hm⟩)
theorem AWM.block {id : Nat} {c : Code} (h : AWM P C c (inBlk id Q) env H) : AWM P C (.block id c) Q env H := fun X a w I μ O h1 h2 h3 hs =>
  wpIn_block (wpIn_mono (h X a w I μ O h1 h2 h3 hs) fun e _ _ ⟨env', H', I', μ', O', ms, s, q, hm⟩ => by
    cases e with
    | exit id' =>
      simp only [Exit.inBlock]
      simp only [inBlk] at q
      split
      · rename_i hid; subst hid; rw [if_pos rfl] at q; exact ⟨env', H', I', μ', O', ms, s, q, hm⟩
      · rename_i hid; rw [if_neg hid] at q; exact ⟨env', H', I', μ', O', ms, s, q, hm⟩
    | _ => exact ⟨env', H', I', μ', O', ms, s, q, hm⟩)
theorem AWM.gh {c : Code} (g : Gh P C env H env' H') (h : AWM P C c Q env' H') : AWM P C c Q env H := fun X a w I μ O h1 h2 h3 hs =>
  let ⟨I', O', hs'⟩ := g X a w I μ O h1 h2 h3 hs; h X a w I' μ O' h1 h2 h3 hs'

/-- The blocks of results in hand may get other labels. -/
theorem Sim.lab (hs : Sim P X env H a w I μ O) (hlt : ∀ b l, O' b = some l → b < w.heap.size ∧ ¬ I b) (hK : ∀ b, X.K b → O' b = none) (ho : ∀ b id, O b = some (.o id) → O' b = some (.o id)) (ht : ∀ b t, O b = some (.t t) → O' b = some (.t t)) :
    Sim P X env H a w I μ O' := by
  refine ⟨hs.toMem.lab hlt hK ho, fun t => ?_, hs.nt, hs.dfs⟩
  exact (hs.envr t).keepG (fun _ h => h) (fun _ _ => rfl) (fun _ _ h => h) (fun b hb => ⟨rfl, ht b t hb⟩) fun p e xs hp => ⟨hp, fun v hv => hv⟩
/-- The loop's record turns: the body begins. -/
theorem Sim.busy {l : Nat} {w2 : World} (hs : Sim P X env H a w I μ O) (h0 : X.n0 = 0) (hg : w.grownBy w2 (some l)) (hl : X.K l) (hIl : ¬ X.I l) : Sim P { X with w := w2, I := I, μ := μ } env H a w2 I μ O := by
  have hlI : ¬ I l := fun hi => hIl (hs.kI l hl hi)
  have hlt : l < w.heap.size := Nat.lt_of_lt_of_le (hs.klt l hl) hs.size
  have s1 := hs.recast (hs.toMem.reroot (K' := fun b => X.K b ∧ b ≠ l) h0 fun b hb => ⟨hs.kO b hb.1, Nat.lt_of_lt_of_le (hs.klt b hb.1) hs.size⟩) rfl rfl rfl
  have s2 := s1.newR [l] fun b hb => by simp at hb; subst hb; exact ⟨hlt, .inl (hs.kO b hl), hlI, fun h => h.2 rfl⟩
  have s3 := s2.grownR hg fun b hb => by cases hb; simp
  have s4 : Sim P _ env H a w2 I μ O := s3.lab (fun b l' hb => ⟨Nat.lt_of_lt_of_le (hs.own b l' hb).1 hg.size, (hs.own b l' hb).2⟩) (fun b hb => hs.kO b hb.1)
    (fun b id hb => by
      by_cases e : b = l
      · subst e; simp at hb
      · simpa [e] using hb) (fun b t hb => by
      by_cases e : b = l
      · subst e; simp at hb
      · simpa [e] using hb)
  exact s4.recast (s4.toMem.reroot (K' := X.K) h0 fun b hb => ⟨hs.kO b hb, Nat.lt_of_lt_of_le (hs.klt b hb) (Nat.le_trans hs.size hg.size)⟩) rfl rfl rfl
/-- .. and ends: the record is as it was. -/
theorem Mem.ready {l : Nat} {w2 w3 w4 : World} {H3 : Heap} {I3 : Nat → Prop} {μ3 : List Nat} {O3 : Nat → Option Loc} (h : Mem P X H w I μ O) (h0 : X.n0 = 0) (hl : X.K l) (hIl : ¬ X.I l) (hg : w.grownBy w2 (some l))
    (h3 : Mem P { X with w := w2, I := I, μ := μ } H3 w3 I3 μ3 O3) (hg3 : w3.grownBy w4 (some l)) (h4 : w4.heap[l]? = X.w.heap[l]?) : Mem P X H3 w4 I3 μ3 O3 where
  prot := fun b hb => by
    by_cases e : b = l
    · subst e; exact h4
    · exact (hg3.block b (Nat.lt_of_lt_of_le (h3.klt b hb) h3.size) (by simpa using e)).trans ((h3.prot b hb).trans ((hg.block b (Nat.lt_of_lt_of_le (h.klt b hb) h.size) (by simpa using e)).trans (h.prot b hb)))
  kO := h3.kO
  kI := fun b hb hi => h.kI b hb (h3.kI b hb hi)
  mono := fun b hb => h3.mono b (h.mono b hb)
  os := hg3.os.trans (h3.os.trans (hg.os.trans h.os))
  tape := hg3.tape.trans (h3.tape.trans (hg.tape.trans h.tape))
  output := hg3.output.trans (h3.output.trans (hg.output.trans h.output))
  size := Nat.le_trans h.size (Nat.le_trans hg.size (Nat.le_trans h3.size hg3.size))
  own := fun b l' hb => ⟨Nat.lt_of_lt_of_le (h3.own b l' hb).1 hg3.size, (h3.own b l' hb).2⟩
  ilt := fun b hb => Nat.lt_of_lt_of_le (h3.ilt b hb) hg3.size
  μlen := h3.μlen
  μpre := fun i b hi hb => h3.μpre i b hi (h.μpre i b hi hb)
  nle := h3.nle
  heap := fun id o ho => by
    obtain ⟨blk, bs, g1, g2, g3, _⟩ := h3.heap id o ho
    have hO := (g3 (by simp [h0])).2
    have hne : ∀ b ∈ blk :: bs, w4.heap[b]? = w3.heap[b]? := fun b hb => hg3.block b (h3.own b _ (hO b hb)).1 (by
      simp only [ne_eq, Option.some.injEq]
      intro e; subst e
      have := h3.kO _ hl; rw [hO _ hb] at this; cases this)
    refine ⟨blk, bs, g1, ?_, g3, fun hlt => absurd hlt (by simp [h0])⟩
    cases o with
    | box cs =>
      obtain ⟨cells, e, k1, k2⟩ := g2
      refine ⟨cells, e, (hne blk (by simp)).trans k1, k2.keep (fun _ h => h) (fun b hb => hg3.block b (h3.ilt b hb) ?_) (fun _ _ h => h) fun b hb => hne b (by simp [hb])⟩
      simp only [ne_eq, Option.some.injEq]
      intro e'; subst e'
      exact hIl (h.kI _ hl (h3.kI _ hl hb))
  klt := h.klt
  n0le := h.n0le
end
end Go.FL
/-
  A FUNCTIONAL LOGIC, 26: the statement itself, and functions that hold one.
-/
namespace Go.FL
open Go Go.RowKit

/-- What a round may use of what its loop's frame knows. -/
def plainE (env : Env) : Env := env.map fun x => (x.1, if noOwn x.2 && !isRef x.2 then x.2 else .un)
theorem get_plainE (env : Env) (t : Nat) : get (plainE env) t = if noOwn (get env t) && !isRef (get env t) then get env t else .un := by
  induction env with
  | nil => rfl
  | cons x r ih =>
    obtain ⟨s, v⟩ := x
    simp only [plainE, List.map_cons, get]
    split
    · rfl
    · exact ih

section
variable {P : Program} {C : Cx} {X : Snap} {Q : Exit → Env → Heap → Prop} {env env' : Env} {H H' : Heap} {a : Act} {w w' : World} {I I' : Nat → Prop} {μ μ' : List Nat} {O O' : Nat → Option Loc}

/-- Like 'Sim.over', with blocks of results in hand that stay. -/
theorem Sim.overL (hs : Sim P X env H a w I μ O) (hn0 : X.n0 = 0) (hc : cellRefs env = false) (ls : List Nat) (hl : ∀ b ∈ ls, O b = some .r) :
    ∃ (Y : Snap) (O2 : Nat → Option Loc), Y.w = w ∧ Y.I = I ∧ Y.n0 = 0 ∧ Y.ne = H.length ∧ Y.μ = μ ∧ (∀ b ∈ ls, Y.K b) ∧ (∀ b, I b → Y.K b) ∧ Mem P Y H w I μ O2 ∧
      ∀ {w' : World} {I' : Nat → Prop} {μ' : List Nat} {O' : Nat → Option Loc} {Hn : Heap}, Mem P Y Hn w' I' μ' O' → ∃ On, Sim P X env Hn a w' I' μ' On ∧ ∀ b ∈ ls, On b = some .r := by
  let Y : Snap := { X with w := w, I := I, n0 := 0, ne := H.length, μ := μ, K := fun b => X.K b ∨ I b ∨ (∃ t, O b = some (.t t)) ∨ b ∈ ls }
  let O2 : Nat → Option Loc := fun b => match O b with
    | some (.o id) => some (.o id)
    | _ => none
  have hO2o : ∀ b id, O b = some (.o id) → O2 b = some (.o id) := fun b id h => by simp only [O2, h]
  have hO2n : ∀ b, (∀ id, O b ≠ some (.o id)) → O2 b = none := fun b h2 => by
    cases hx : O b with
    | none => simp only [O2, hx]
    | some l => cases l with
      | o id => exact absurd hx (h2 id)
      | _ => simp only [O2, hx]
  have hO2 : ∀ b l, O2 b = some l → ∃ l', O b = some l' := fun b l h => by
    cases hx : O b with
    | some l' => exact ⟨l', rfl⟩
    | none => rw [hO2n b (by rw [hx]; simp)] at h; cases h
  have hKO : ∀ b, Y.K b → ∀ id, O b ≠ some (.o id) := fun b hk => by
    rcases hk with hk | hk | ⟨t, hk⟩ | hk
    · exact fun id h => (by rw [hs.kO b hk] at h; cases h)
    · exact fun id h => (hs.own b _ h).2 hk
    · exact fun id h => (by rw [hk] at h; simp at h)
    · exact fun id h => (by rw [hl b hk] at h; simp at h)
  have hmem : Mem P Y H w I μ O2 := {
    prot := fun _ _ => rfl
    kO := fun b hk => hO2n b (hKO b hk)
    kI := fun _ _ h => h
    mono := fun _ h => h
    os := rfl, tape := rfl, output := rfl, size := Nat.le_refl _
    own := fun b l h => by obtain ⟨l', h'⟩ := hO2 b l h; exact hs.own b l' h'
    ilt := hs.ilt, μlen := hs.μlen, μpre := fun _ _ _ h => h, nle := Nat.le_refl _
    heap := fun id o' ho' => by
      obtain ⟨blk, ds, h1, h2, h3, _⟩ := hs.heap id o' ho'
      exact ⟨blk, ds, h1, h2, fun _ => ⟨(h3 (by omega)).1, fun b hb' => hO2o b id ((h3 (by omega)).2 b hb')⟩, fun h => absurd h (by simp [Y])⟩
    klt := fun b hk => by
      rcases hk with hk | hk | ⟨t, hk⟩ | hk
      · exact Nat.lt_of_lt_of_le (hs.klt b hk) hs.size
      · exact hs.ilt b hk
      · exact (hs.own b _ hk).1
      · exact (hs.own b _ (hl b hk)).1
    n0le := Nat.zero_le _ }
  refine ⟨Y, O2, rfl, rfl, rfl, rfl, rfl, fun b hb => .inr (.inr (.inr hb)), fun b hb => .inr (.inl hb), hmem, ?_⟩
  intro w' I' μ' O' Hn hm
  let On : Nat → Option Loc := fun b => if b ∈ ls then some .r else match O' b with
    | some (.o id) => some (.o id)
    | _ => match O b with
      | some (.t t) => some (.t t)
      | _ => none
  have hOl : ∀ b, b ∈ ls → On b = some .r := fun b hb => by show (if b ∈ ls then _ else _) = _; rw [if_pos hb]
  have hOe : ∀ b, b ∉ ls → On b = match O' b with
      | some (.o id) => some (.o id)
      | _ => match O b with
        | some (.t t) => some (.t t)
        | _ => none := fun b hb => by show (if b ∈ ls then _ else _) = _; rw [if_neg hb]
  have hOt : ∀ b t, O b = some (.t t) → On b = some (.t t) ∧ w'.heap[b]? = w.heap[b]? := fun b t h => by
    have hk : Y.K b := .inr (.inr (.inl ⟨t, h⟩))
    have h0 := hm.kO b hk
    refine ⟨?_, hm.prot b hk⟩
    rw [hOe b fun hb => by rw [hl b hb] at h; simp at h]
    simp only [h0, h]
  have hOo : ∀ b id, O' b = some (.o id) → On b = some (.o id) := fun b id h => by
    rw [hOe b fun hb => by have := hm.kO b (.inr (.inr (.inr hb))); rw [h] at this; cases this]
    simp only [h]
  have hII : ∀ b, I b → w'.heap[b]? = w.heap[b]? := fun b hi => hm.prot b (.inr (.inl hi))
  have hμ : ∀ (i b : Nat), μ[i]? = some b → μ'[i]? = some b := fun i b h => hm.μpre i b (by have := (List.getElem?_eq_some_iff.1 h).1; have := hs.μlen; simp only [Y]; omega) h
  refine ⟨On, ⟨{
    prot := fun b hk => (hm.prot b (.inl hk)).trans (hs.prot b hk)
    kO := fun b hk => by
      have h0 := hm.kO b (.inl hk)
      rw [hOe b fun hb => by have := hl b hb; rw [hs.kO b hk] at this; cases this]
      simp only [h0, hs.kO b hk]
    kI := fun b hk hi => hs.kI b hk (hm.kI b (.inl hk) hi)
    mono := fun b hi => hm.mono b (hs.mono b hi)
    os := hm.os.trans hs.os, tape := hm.tape.trans hs.tape, output := hm.output.trans hs.output, size := Nat.le_trans hs.size hm.size
    own := fun b l hl' => by
      by_cases hx : b ∈ ls
      · exact ⟨Nat.lt_of_lt_of_le (hs.own b _ (hl b hx)).1 hm.size, fun hi => (hs.own b _ (hl b hx)).2 (hm.kI b (.inr (.inr (.inr hx))) hi)⟩
      · rw [hOe b hx] at hl'
        split at hl'
        · rename_i id h; exact hm.own b _ h
        · split at hl'
          · rename_i t h
            refine ⟨Nat.lt_of_lt_of_le (hs.own b _ h).1 hm.size, fun hi => (hs.own b _ h).2 (hm.kI b (.inr (.inr (.inl ⟨t, h⟩))) hi)⟩
          · cases hl'
    ilt := hm.ilt, μlen := hm.μlen
    μpre := fun i b hi h => hμ i b (hs.μpre i b hi h)
    nle := Nat.le_trans hs.nle hm.nle
    heap := fun id o' ho' => by
      obtain ⟨blk, ds, h1, h2, h3, _⟩ := hm.heap id o' ho'
      exact ⟨blk, ds, h1, h2, fun _ => ⟨(h3 (Nat.zero_le _)).1, fun b hb' => hOo b id ((h3 (Nat.zero_le _)).2 b hb')⟩, fun h => by omega⟩
    klt := hs.klt, n0le := hs.n0le }, fun t => ?_, hs.nt, hs.dfs⟩, hOl⟩
  have ht := hs.envr t
  obtain ⟨c1, c2⟩ := cellRefs_get hc t
  cases hg : get env t with
  | ref p off len =>
    rw [hg] at ht
    obtain ⟨e, xs, A, n, c, g1, g2, g3⟩ := ht
    cases p with
    | t q => exact ⟨e, xs, A, n, c, g1, g2, g3⟩
    | c id off' => exact absurd hg (c1 _ _ _ _)
  | ep p i j =>
    rw [hg] at ht
    obtain ⟨e, xs, b, n, c, g1, g2, g3⟩ := ht
    cases p with
    | t q => exact ⟨e, xs, b, n, c, g1, g2, g3⟩
    | c id off' => exact absurd hg (c2 _ _ _ _)
  | _ =>
    rw [hg] at ht
    obtain ⟨ds, g1, g2, g3⟩ := ht.plain rfl
    exact .of (g1.keep hm.mono hII hμ fun b hb' => (hOt b t (g3 b hb')).2) g2 fun b hb' => (hOt b t (g3 b hb')).1

/-- A round's frame: the loop's temporaries, and the two that the round is given. -/
theorem Sim.round {Y : Snap} {O2 : Nat → Option Loc} (hs : Sim P X env H a w I μ O) (hm : Mem P Y H w I μ O2) (p1 p2 : Nat) (hp1 : p1 < X.nt.2) (hp2 : p2 < X.nt.2) {d1 d2 : DV} {v1 v2 : Value} (h1 : Rep w I d1 v1) (h2 : Rep w I d2 v2) :
    Sim P { Y with nt := (0, X.nt.2), dfs := [], args := [] } ((p2, .d d2) :: (p1, .d d1) :: plainE env) H { tmps := ((#[p1, p2] : Array Tmp).zip #[v1, v2]).foldl (fun t (p, v) => t.setIfInBounds p v) a.tmps, defers := [] } w I μ O2 := by
  have e0 : ((#[p1, p2] : Array Tmp).zip #[v1, v2]).foldl (fun (t : Array Value) (p, v) => t.setIfInBounds p v) a.tmps = (a.tmps.setIfInBounds p1 v1).setIfInBounds p2 v2 := by
    rw [← Array.foldl_toList, Array.toList_zip]
    rfl
  have hsz : p1 < a.tmps.size ∧ p2 < a.tmps.size := by rw [hs.nt]; exact ⟨hp1, hp2⟩
  refine ⟨hm.cast rfl rfl rfl rfl rfl rfl, fun t => ?_, ?_, rfl, fun t ht => absurd ht (by simp)⟩
  · simp only [get]
    by_cases e2 : p2 = t
    · subst e2
      rw [if_pos rfl]
      refine .of (bs := []) (.d ?_) List.nodup_nil (by simp)
      rw [e0]
      have : ((a.tmps.setIfInBounds p1 v1).setIfInBounds p2 v2).getD p2 undef = v2 := by simp [hsz.2]
      show Rep w I d2 (((a.tmps.setIfInBounds p1 v1).setIfInBounds p2 v2).getD p2 undef)
      rw [this]; exact h2
    · rw [if_neg e2]
      by_cases e1 : p1 = t
      · subst e1
        rw [if_pos rfl]
        refine .of (bs := []) (.d ?_) List.nodup_nil (by simp)
        rw [e0]
        have : ((a.tmps.setIfInBounds p1 v1).setIfInBounds p2 v2).getD p1 undef = v1 := by simp [hsz.1, e2]
        show Rep w I d1 (((a.tmps.setIfInBounds p1 v1).setIfInBounds p2 v2).getD p1 undef)
        rw [this]; exact h1
      · rw [if_neg e1, get_plainE]
        split
        · rename_i hpl
          simp only [Bool.and_eq_true, Bool.not_eq_true'] at hpl
          obtain ⟨bs, g1, g2, g3⟩ := (hs.envr t).plain hpl.2
          have := noOwn_bs g1 hpl.1
          subst this
          refine .of (bs := []) ?_ List.nodup_nil (by simp)
          rw [e0]
          have : ((a.tmps.setIfInBounds p1 v1).setIfInBounds p2 v2).getD t undef = a.tmps.getD t undef := by simp [e1, e2, Array.getElem?_setIfInBounds_ne]
          show ARep P w I μ (get env t) (((a.tmps.setIfInBounds p1 v1).setIfInBounds p2 v2).getD t undef) []
          rw [this]; exact g1
        · exact .un
  · rw [e0]; simp; exact hs.nt

theorem putObj_grown {w : World} {l : Nat} (o : Obj) : w.grownBy (w.putObj l o) (some l) :=
  ⟨rfl, rfl, rfl, by simp, fun k _ hk => World.putObj_heap_other (fun e => hk (by rw [e]))⟩
theorem alloc_below {w : World} (o : Obj) : Below w.heap.size w (w.alloc o) :=
  ⟨rfl, rfl, rfl, by simp, fun k hk => Below.heap_alloc w o k hk⟩

theorem AWM.rangeFunc {g p1 p2 : Nat} {assign body : Code} {f : FuncId} {caps : List DV} {ys : List (List DV)} (hro : C.ro = none) (hn0 : C.n0 = 0) (hg : get env g = .d (.fn f [] caps)) (hcall : ∀ args w, (callFunc f args).run P w = .ok (.enter f args) w)
    (hit : It P f caps ys) (hys : ∀ ds ∈ ys, ds.length = 2) (hp1 : p1 < C.nt.2) (hp2 : p2 < C.nt.2) (hc : cellRefs env = false) (Hs : Nat → Heap) (h0 : Hs 0 = H)
    (hround : ∀ (l k : Nat) (d1 d2 : DV), ys[k]? = some [d1, d2] → AW P { nt := (0, C.nt.2), n0 := 0, ne := (Hs k).length, ro := some l } assign
      (thenQ (AW P { nt := (0, C.nt.2), n0 := 0, ne := (Hs k).length, ro := some l } body fun e _ H' => e = .normal ∧ H' = Hs (k + 1)) fun _ _ _ => False) ((p2, .d d2) :: (p1, .d d1) :: plainE env) (Hs k))
    (hdone : Q .normal env (Hs ys.length)) : AWM P C (.rangeFunc (.tmp g) #[p1, p2] assign body) Q env H := by
  intro X a w I μ O h1 h2 h3 hs
  have hX0 : X.n0 = 0 := by omega
  refine wpIn_rangeFunc ?_
  intro fn _
  rw [hro]
  have hfr := hs.deep (x := .tmp g) (v := .fn f [] caps) (by show deepOf (get env g) = _; rw [hg]; rfl)
  generalize hev : a.eval (.tmp g) = u at hfr
  cases hfr with
  | fn _ _ _ fs cv hfs hcv =>
  cases hfs
  obtain ⟨rec, hrec⟩ : ∃ rec : LoopState → Option Code → Loop, rec = fun st pe => { state := st, pending := pe, fn, tmps := a.tmps, params := #[p1, p2], assign, body, defers := w.heap.size } := ⟨_, rfl⟩
  obtain ⟨W1, hW1⟩ : ∃ W1, (w.alloc (.deferred (some []))).alloc (.loop (rec .ready none)) = W1 := ⟨_, rfl⟩
  have hL1 : W1.heap[w.heap.size + 1]? = some (.loop (rec .ready none)) := by
    rw [← hW1]; have := World.alloc_heap_new (w.alloc (.deferred (some []))) (.loop (rec .ready none)); rwa [World.size_alloc] at this
  have hK1 : W1.heap[w.heap.size]? = some (.deferred (some [])) := by
    rw [← hW1]; exact (Below.heap_alloc _ _ _ (by simp)).trans (World.alloc_heap_new w _)
  have hb1 : Below w.heap.size w W1 := by
    rw [← hW1]; exact (alloc_below _).trans ((alloc_below _).mono (by simp))
  have hsz1 : W1.heap.size = w.heap.size + 2 := by rw [← hW1]; simp
  have hs1 := (hs.grow hb1).newR [w.heap.size, w.heap.size + 1] fun b hb => by
    have hge : w.heap.size ≤ b ∧ b < W1.heap.size := by simp at hb; omega
    refine ⟨hge.2, .inl ?_, fun hi => ?_, fun hk => ?_⟩
    · cases hO : O b with
      | none => rfl
      | some l => have := (hs.own b l hO).1; omega
    · have := hs.ilt b hi; omega
    · have := hs.klt b hk; have := hs.size; omega
  refine ⟨w.heap.size + 1, [{ target := .collected w.heap.size, args := #[] }], W1, { target := .fn (.func f) cv.toArray, args := #[.func (.yield (w.heap.size + 1)) #[] #[]] }, W1, f,
    #[.func (.yield (w.heap.size + 1)) #[] #[]] ++ cv.toArray, W1, ?_, ?_, ?_, ?_, fun h => (by simp [om] at h), ?_⟩
  · rw [← hW1, hrec]; exact run_enterLoop_outer _ _ _ _ _
  · simp only [resolve, hev]
    simp [go_sem]
  · intro f' hf'; exact trivial
  · simp [invoke, go_sem, hcall]
  let J : Nat → World → Prop := fun k W => ∃ I' μ' O', Sim P X env (Hs k) a W I' μ' O' ∧ O' w.heap.size = some .r ∧ O' (w.heap.size + 1) = some .r ∧ W.heap[w.heap.size + 1]? = some (.loop (rec .ready none)) ∧
    W.heap[w.heap.size]? = some (.deferred (some [])) ∧ (∀ b, I b → I' b) ∧ ∀ b, I b → W.heap[b]? = W1.heap[b]?
  have hcv1 : RepAll W1 I [] [] := .nil
  have hcvW : RepAll W1 I caps cv := hcv.keep (fun b hi => hb1.block b (hs.ilt b hi)) fun _ h => h
  refine (hit (w.heap.size + 1) W1 I cv J (fun k W' hJ => by obtain ⟨_, _, _, _, _, _, _, _, _, h⟩ := hJ; exact h) hcvW ?_ ⟨I, μ, _, by rw [h0]; exact hs1, by simp, by simp, hL1, hK1, fun _ h => h, fun _ _ => rfl⟩).mono ?_
  · -- a round
    rintro k W ds vs ⟨I1, μ1, O1, s1, oD, ol, hl, hD, hI, hIw⟩ hk hr
    have hlen := hys ds (List.mem_of_getElem? hk)
    obtain ⟨d1, d2, rfl⟩ : ∃ d1 d2, ds = [d1, d2] := by
      match ds, hlen with
      | [d1, d2], _ => exact ⟨d1, d2, rfl⟩
    obtain ⟨v1, v2, rfl, hr1, hr2⟩ : ∃ v1 v2, vs = [v1, v2] ∧ Rep W I d1 v1 ∧ Rep W I d2 v2 := by
      cases hr with
      | cons x1 t => cases t with
        | cons x2 t => cases t; exact ⟨_, _, rfl, x1, x2⟩
    have hy := run_yield (P := P) (args := #[v1, v2]) hl (by rw [hrec]; rfl)
    rw [hrec] at hy
    refine ⟨fn, _, assign, body, hy, roundIn_of_wpIn trivial ?_⟩
    obtain ⟨Y, O2, y1, y2, y3, y4, y5, yl, yI, ym, yk⟩ := s1.overL hX0 hc [w.heap.size, w.heap.size + 1] (by simp [oD, ol])
    have sr := s1.round ym p1 p2 (by rw [h1]; exact hp1) (by rw [h1]; exact hp2) (hr1.keep (fun _ _ => rfl) hI) (hr2.keep (fun _ _ => rfl) hI)
    have hnl : ¬ I1 (w.heap.size + 1) := (s1.own _ _ ol).2
    refine wpIn_mono (hround (w.heap.size + 1) k d1 d2 hk { Y with nt := (0, X.nt.2), dfs := [], args := [] } _ _ _ _ _ (by show (0, X.nt.2) = (0, C.nt.2); rw [h1]) y3 y4 sr) ?_
    rintro e a1 w1 ⟨env1, H1, I2, μ2, O3, q1, q2⟩
    cases e with
    | normal =>
      have hl1 : w1.heap[w.heap.size + 1]? = some (.loop (rec .ready none)) := (q1.prot _ (yl _ (by simp))).trans (by rw [y1]; exact hl)
      refine ⟨_, run_beginRound hl1 (by rw [hrec]), ?_⟩
      have sb := q1.busy y3 (putObj_grown (.loop { rec .ready none with state := .busy })) (yl (w.heap.size + 1) (by simp)) (by show ¬ Y.I _; rw [y2]; exact hnl)
      refine wpIn_mono (q2 { Y with nt := (0, X.nt.2), dfs := [], args := [], w := w1.putObj (w.heap.size + 1) (.loop { rec .ready none with state := .busy }), I := I2, μ := μ2 } _ _ _ _ _ (by show (0, X.nt.2) = (0, C.nt.2); rw [h1]) y3 y4 sb) ?_
      rintro e a2 w2 ⟨env2, H2, I3, μ3, O4, t1, t2, rfl⟩
      subst t2
      have hl2 : w2.heap[w.heap.size + 1]? = some (.loop { rec .ready none with state := .busy }) := (t1.prot _ (yl _ (by simp))).trans (World.putObj_heap_same (Array.getElem?_eq_some_iff.1 hl1).1)
      have hend := run_endRound (P := P) none hl2
      refine ⟨_, _, hend, rfl, ?_⟩
      have hme : ({ ({ rec .ready none with state := .busy } : Loop) with state := if (none : Option Code).isNone then LoopState.ready else .done, pending := none } : Loop) = rec .ready none := by rw [hrec]; rfl
      rw [hme]
      have hl4 : (w2.putObj (w.heap.size + 1) (.loop (rec .ready none))).heap[w.heap.size + 1]? = some (.loop (rec .ready none)) := World.putObj_heap_same (Array.getElem?_eq_some_iff.1 hl2).1
      have hm4 : Mem P Y (Hs (k + 1)) (w2.putObj (w.heap.size + 1) (.loop (rec .ready none))) I3 μ3 O4 :=
        Mem.ready (X := Y) (l := w.heap.size + 1) (q1.toMem.cast rfl rfl rfl rfl rfl rfl) y3 (yl _ (by simp)) (by rw [y2]; exact hnl) (putObj_grown _) (t1.toMem.cast rfl rfl rfl rfl rfl rfl) (putObj_grown _) (by rw [hl4, y1, hl])
      obtain ⟨On, k1, k2⟩ := yk hm4
      refine ⟨I3, μ3, On, k1, k2 _ (by simp), k2 _ (by simp), hl4, ?_, fun b hb => hm4.mono b (by rw [y2]; exact hI b hb), fun b hb => ?_⟩
      · exact (hm4.prot _ (yl _ (by simp))).trans (by rw [y1]; exact hD)
      · exact (hm4.prot b (yI b (hI b hb))).trans (by rw [y1]; exact hIw b hb)
    | _ => exact q2.elim
  · -- behind the iterator
    rintro e W2 ⟨⟨v, rfl⟩, I1, μ1, O1, s1, oD, ol, hl, hD, hI, hIw⟩
    refine ⟨none, _, by have := run_endLoop (P := P) hl (by rw [hrec]; simp); rw [hrec] at this; exact this, ?_⟩
    have s2 := s1.grownR (putObj_grown (l := w.heap.size + 1) (.loop { state := .exhausted, pending := none, fn, tmps := a.tmps, params := #[p1, p2], assign, body, defers := w.heap.size })) fun b hb => by cases hb; exact ol
    have s3 := s2.lab (O' := fun b => if b = w.heap.size then none else O1 b) (fun b l hb => by
        split at hb
        · cases hb
        · exact s2.own b l hb) (fun b hb => by
        split
        · rfl
        · exact s2.kO b hb) (fun b id hb => by rw [if_neg (fun e => by subst e; rw [oD] at hb; simp at hb)]; exact hb) (fun b t hb => by rw [if_neg (fun e => by subst e; rw [oD] at hb; simp at hb)]; exact hb)
    refine ⟨env, _, I1, μ1, _, [{ target := .collected w.heap.size, args := #[] }], ⟨s3.toMem.cast rfl rfl rfl rfl rfl rfl, s3.envr, s3.nt, by rw [s3.dfs.1], s3.dfs.2⟩, hdone, ?_⟩
    refine ⟨by simp, fun m hm => ?_⟩
    simp at hm
    refine ⟨_, hm, ?_, by simp, (s1.own _ _ oD).2, fun hk => by have := hs.klt _ hk; have := hs.size; omega⟩
    exact (World.putObj_heap_other (by omega)).trans hD

theorem leaves_marks {fn : Func} {R : Ending → World → Prop} (hfin : ∀ w, Sim P X env H a w I μ O → LeavesInM (om none) 0 P fn a.tmps R [] .returning w) :
    ∀ (ms : List Deferred) (w : World), Sim P X env H a w I μ O → Marks X.K w I O ms → LeavesInM (om none) 0 P fn a.tmps R ms .returning w := by
  intro ms
  induction ms with
  | nil => intro w hw _; exact hfin w hw
  | cons m ms ih =>
    intro w hw hm
    obtain ⟨hn, hm⟩ := hm
    obtain ⟨D, rfl, hD, hO, hI, hK⟩ := hm m (by simp)
    refine ⟨by simp, .inl ⟨D, _, rfl, run_takeDeferred hD, ih _ ?_ ⟨(List.nodup_cons.1 hn).2, fun m' hm' => ?_⟩⟩⟩
    · have s1 := hw.newR [D] fun b hb => by simp at hb; subst hb; exact ⟨(Array.getElem?_eq_some_iff.1 hD).1, .inl hO, hI, hK⟩
      have s2 := s1.grownR (putObj_grown (l := D) (.deferred none)) fun b hb => by cases hb; simp
      exact s2.lab (fun b l' hb => ⟨by rw [World.putObj_size]; exact (hw.own b l' hb).1, (hw.own b l' hb).2⟩) hw.kO
        (fun b id hb => by
          by_cases e : b = D
          · subst e; simp at hb
          · simpa [e] using hb) (fun b t hb => by
          by_cases e : b = D
          · subst e; simp at hb
          · simpa [e] using hb)
    · obtain ⟨D', rfl, hD', h3, h4, h5⟩ := hm m' (by simp [hm'])
      refine ⟨D', rfl, (World.putObj_heap_other fun e => ?_).trans hD', h3, h4, h5⟩
      subst e
      exact (List.nodup_cons.1 hn).1 hm'

/-- Like 'Fn.of', for bodies that hold a range over a function. -/
theorem Fn.ofM {f : FuncId} {fn : Func} {c : Code} {args : List DV} {r : AV} {rs : List ResultVar} {nt : Nat} (hf : P.funcs[f]? = some fn) (hb : fn.body = some c) (hrs : fn.results = rs.toArray) (hnt : fn.ntmps = nt) (hn : args.length ≤ nt) (hbp : noBp r = true)
    (h : AWM P { nt := (0, nt), n0 := 0, ne := 0 } c (retQ rs r) (argEnv 0 args) []) : Fn P f args r := by
  intro w I vs hI ha
  refine callsIn_of_wp_marks hf hb trivial ?_
  have hlen := ha.length
  let X : Snap := { w := w, I := I, K := fun b => b < w.heap.size, n0 := 0, ne := 0, μ := [], nt := (0, nt), dfs := [] }
  let a : Act := { tmps := vs.toArray ++ Array.replicate (fn.ntmps - vs.toArray.size) undef, defers := [] }
  have hs : Sim P X (argEnv 0 args) [] a w I [] (fun _ => none) := by
    refine ⟨{ prot := fun _ _ => rfl, kO := fun _ _ => rfl, kI := fun _ _ h => h, mono := fun _ h => h, os := rfl, tape := rfl, output := rfl, size := Nat.le_refl _, own := (fun b l h => by simp at h), ilt := hI, μlen := rfl, μpre := (fun i b hi _ => by simp [X] at hi), nle := (by simp [X]), heap := (fun id o h => by simp at h), klt := fun b hb => hb, n0le := (by simp [X]) }, fun t => ?_, ?_, rfl, fun t h => absurd h (by simp [X])⟩
    · rcases argEnv_rep (tmps := a.tmps) (k := 0) ha (fun j v hj => by
        have hjl : j < vs.length := (List.getElem?_eq_some_iff.1 hj).1
        have e2 : (vs.toArray ++ Array.replicate (fn.ntmps - vs.length) undef)[j]? = some v := by
          rw [Array.getElem?_append_left (by simpa using hjl)]; simpa using hj
        simp [a, e2]) t with h0 | ⟨d, h0, h1⟩
      · rw [h0]; exact .un
      · rw [h0]; exact .of (bs := []) (.d h1) List.nodup_nil (by simp)
    · simp [a, X, hnt]; omega
  have hw := h X a w I [] (fun _ => none) rfl rfl rfl hs
  refine wpIn_mono hw fun e a' w' hp => ?_
  obtain ⟨env', H', I', μ', O', ms, s, q, hm⟩ := hp
  have hdf : a'.defers = ms := by rw [s.dfs.1]; simp [X]
  have fin : resOK env' r rs → LeavesInM (om none) 0 P fn a'.tmps (fun e w' => ∃ v I' bs, e = .returned v ∧ Below w.heap.size w w' ∧ (∀ b, I b → I' b) ∧
      (∀ b, I' b → b < w'.heap.size ∧ (b < w.heap.size → I b)) ∧ ARep P w' I' [] r v bs ∧ bs.Nodup ∧ ∀ b ∈ bs, w.heap.size ≤ b ∧ b < w'.heap.size ∧ ¬ I' b) a'.defers .returning w' := by
    intro hres
    rw [hdf]
    refine leaves_marks (fun w4 s4 => ?_) ms w' s hm
    obtain ⟨v, bs, h1, h2, h3, h4⟩ := s4.results hrs hres
    refine ⟨v, h1, v, I', bs, rfl, ⟨s4.os, s4.tape, s4.output, s4.size, fun b hb => s4.prot b hb⟩, s4.mono, fun b hi => ⟨s4.ilt b hi, fun hb => s4.kI b hb hi⟩, h2.noBp hbp, h3, fun b hm => ?_⟩
    obtain ⟨l, hl⟩ := h4 b hm
    refine ⟨?_, (s4.own b l hl).1, (s4.own b l hl).2⟩
    rcases Nat.lt_or_ge b w.heap.size with hlt | hge
    · have := s4.kO b hlt; rw [this] at hl; cases hl
    · exact hge
  cases e with
  | normal => exact fin q
  | ret => exact fin q
  | _ => exact q.elim
end
end Go.FL
/-
  A FUNCTIONAL LOGIC, 27: deep boxes, function values, bytes and strings.
-/
namespace Go.FL
open Go Go.RowKit

/-- Bytes; the string of them. -/
def B (ns : List Nat) : List DV := ns.map fun n : Nat => .i .u8 (n : Int)
def bstr (ns : List Nat) : ByteArray := ⟨(ns.map UInt8.ofNat).toArray⟩
theorem B_length (ns : List Nat) : (B ns).length = ns.length := by simp [B]
theorem B_sz (ns : List Nat) : ∀ x ∈ B ns, x.cells.length = 1 := fun x hx => by
  simp only [B, List.mem_map] at hx
  obtain ⟨n, _, rfl⟩ := hx; rfl
theorem B_at {ns : List Nat} {i n : Nat} (h : ns[i]? = some n) : (B ns)[i]? = some (.i .u8 (n : Int)) := by simp [B, h]
theorem B_append (xs ys : List Nat) : B (xs ++ ys) = B xs ++ B ys := by simp [B]
theorem B_take (xs : List Nat) (n : Nat) : (B xs).take n = B (xs.take n) := by simp [B, List.map_take]
theorem B_drop (xs : List Nat) (n : Nat) : (B xs).drop n = B (xs.drop n) := by simp [B, List.map_drop]
theorem B_set (xs : List Nat) (n x : Nat) : (B xs).set n (.i .u8 (x : Int)) = B (xs.set n x) := by simp [B, List.map_set]

theorem RepRows.leaf1' {w : World} {I : Nat → Prop} : ∀ {xs : List DV} {vs : List Value}, RepRows w I 1 xs vs → (∀ x ∈ xs, x.leaf = true) → RepAll w I xs vs := by
  intro xs
  induction xs with
  | nil => intro vs h _; cases h; exact .nil
  | cons x xs ih =>
    intro vs h hx
    cases h with
    | cons hl h1 h t =>
      rw [DV.leaf_cells (hx x (by simp))] at h
      cases h with
      | cons hh tt => cases tt; exact .cons hh (ih t fun y hy => hx y (by simp [hy]))
section
variable {P : Program} {C : Cx} {X : Snap} {o : Oper} {ops : Array Oper} {Q : Exit → Env → Heap → Prop} {env env' : Env} {H H' : Heap} {a : Act} {w w' : World} {I I' : Nat → Prop} {μ μ' : List Nat} {O O' : Nat → Option Loc}
  {K : Env → Heap → Prop} {k : Nat} {l : List Oper}

/-- A deep value, put into memory for good. -/
theorem bxd {x : Operand} {ty t : Nat} {v : DV} (h : RL P C ops Q (k + 1) l ((t, .d (.ptr [v])) :: env) H) (hg : grd ops env o true = true := by rfl) (ho : o.op = .box ty x := by rfl) (hv : deepOf (lk env x) = some v := by rfl)
    (hl : v.leaf = true := by rfl) (hd : o.dst = some t := by rfl) (hf : isOwn (get env t) = false := by rfl) (ht : okT C.nt t := by rfl) : RL P C ops Q k (o :: l) env H := by
  rw [← put_cons hf] at h
  refine .go hg (.val (by simp [ho]) hd ht (fun X a w I μ O _ _ _ hs => ?_) h)
  have hr := hs.deep (x := x) hv
  have hone := hr.one hl
  have hcells : (a.eval x).cells = #[a.eval x] := by
    generalize a.eval x = u at hone
    cases u <;> first | rfl | simp [Value.oneCell'] at hone
  have hb : Below w.heap.size w (w.alloc (.cells #[a.eval x] ty)) := alloc_below _
  let I' : Nat → Prop := fun b => I b ∨ b = w.heap.size
  have s1 := hs.called (I' := I') hb (fun b hi => .inl hi) fun b hi => by
    rcases hi with hi | rfl
    · exact ⟨Nat.lt_of_lt_of_le (hs.ilt b hi) hb.size, fun _ => hi⟩
    · exact ⟨by simp, fun hlt => absurd hlt (Nat.lt_irrefl _)⟩
  refine ⟨.pointer (some ⟨w.heap.size, 0, none⟩), _, I', μ, O, ?_, s1, [], .d (.ptr [v] w.heap.size 0 [a.eval x] (.inr rfl) ?_ (.cons (hr.keep (fun b hi => hb.block b (hs.ilt b hi)) fun b hi => .inl hi) .nil)), List.nodup_nil, by simp⟩
  · simp only [execOp, ho, Instr.box, Sem.run_bind, run_newVar, Result.andThen_ok, Sem.run_pure, hcells]
  · intro j u hj
    have hnew : (w.alloc (.cells #[a.eval x] ty)).heap[w.heap.size]? = some (.cells #[a.eval x] ty) := World.alloc_heap_new w _
    have hj0 : j < 1 := by simpa using (List.getElem?_eq_some_iff.1 hj).1
    have : j = 0 := by omega
    subst this
    simp at hj; subst hj
    show World.cell? _ ⟨w.heap.size, 0 + 0, none⟩ = _
    unfold World.cell?
    show (match (w.alloc (.cells #[a.eval x] ty)).heap[w.heap.size]? with | some (.cells c _ _) => _ | _ => _) = _
    rw [hnew]; rfl
/-- A function value with captures. -/
theorem mkf {f : FuncId} {cap : Array Operand} {t : Nat} {ds : List DV} (h : RL P C ops Q (k + 1) l ((t, .d (.fn f [] ds)) :: env) H) (hg : grd ops env o true = true := by rfl) (ho : o.op = .makeFunc (.func f) #[] cap := by rfl) (ha : argsD env cap.toList = some ds := by rfl)
    (hd : o.dst = some t := by rfl) (hf : isOwn (get env t) = false := by rfl) (ht : okT C.nt t := by rfl) : RL P C ops Q k (o :: l) env H := by
  rw [← put_cons hf] at h
  refine .go hg (.pure (by simp [ho]) hd ht (fun X a w I μ O _ hs => ⟨.func (.func f) #[] (cap.map a.eval), ?_, .of_rep ?_⟩) h)
  · simp [execOp, ho, Instr.makeFunc]
  · have := Rep.fn f [] ds [] (cap.toList.map a.eval) (.nil (w := w) (I := I)) (hs.argsD ha)
    have e : (cap.toList.map a.eval).toArray = cap.map a.eval := by apply Array.ext'; simp
    rw [e] at this
    exact this

/-- Bytes become a string. -/
theorem cvs {x : Operand} {src dst e t : Nat} {ns : List Nat} (hs' : P.underlying src = some (.slice e)) (he : P.underlying e = some (.int .u8)) (hd' : P.underlying dst = some .string) (hne : ns ≠ []) (h : RL P C ops Q (k + 1) l ((t, .d (.s (bstr ns))) :: env) H)
    (hg : grd ops env o true = true := by rfl) (ho : o.op = .convert src dst x := by rfl) (hv : rd env H (lk env x) = some (B ns) := by rfl) (hd : o.dst = some t := by rfl) (hf : isOwn (get env t) = false := by rfl) (ht : okT C.nt t := by rfl) : RL P C ops Q k (o :: l) env H := by
  rw [← put_cons hf] at h
  refine .go hg (.pure (by simp [ho]) hd ht (fun X a w I μ O _ hs => ⟨.string (bstr ns), ?_, .of_rep (.s _)⟩) h)
  obtain ⟨news, ⟨hnl, A, c, hev, hmc, hA⟩, hrr⟩ := hs.rd hv (sz := 1) (B_sz ns)
  obtain ⟨b, off, rfl, hhas⟩ := hA (by rw [B_length]; exact List.length_pos_iff.2 hne)
  have hra := hrr.leaf1' (by intro x hx; simp only [B, List.mem_map] at hx; obtain ⟨n, _, rfl⟩ := hx; rfl)
  have hnews : news = (ns.map fun n : Nat => (n : Int)).map (Value.int .u8) := by
    clear hhas hA hnl hev hmc hrr hv h
    generalize hB : B ns = bs at hra
    induction ns generalizing news bs with
    | nil => simp [B] at hB; subst hB; cases hra; rfl
    | cons n ns ih =>
      simp [B] at hB
      subst hB
      cases hra with
      | cons h1 t =>
        cases h1
        by_cases hns : ns = []
        · subst hns; cases t; rfl
        · rw [List.map_cons, List.map_cons, ih hns _ _ rfl t]
  have hln : (B ns).length = news.length := by rw [hnl]; simp
  rw [hln] at hev
  have hl := run_loadCells_list (P := P) (w := w) ⟨b, off, none⟩ news (fun j v hj => by
    have := hhas j v hj
    unfold Addr.add
    split
    · rename_i e; rw [e] at this; simpa using this
    · exact this)
  simp only [execOp, ho, hev, Sem.run_bind]
  rw [run_convert_bytes_string w src dst e _ _ _ hs' he hd', run_bytesToString w ⟨b, off, none⟩ news.length c (ns.map fun n : Nat => (n : Int)) (by rw [hl, hnews])]
  simp only [Result.andThen_ok, Sem.run_pure]
  congr 3
  have hfold : ∀ (ns : List Nat) (r : ByteArray), (ns.map fun n : Nat => (n : Int)).foldl (fun r n => r.push (UInt8.ofNat n.toNat)) r = ⟨r.data ++ (ns.map UInt8.ofNat).toArray⟩ := by
    intro ns
    induction ns with
    | nil => intro r; simp
    | cons n ns ih => intro r; simp only [List.map_cons, List.foldl_cons]; rw [ih]; simp [ByteArray.push]
  rw [hfold]
  simp [bstr]
/-- Two strings, one behind the other. -/
theorem sad {xt yt : TypeId} {x y : Operand} {t : Nat} {s u : ByteArray} (hle : s.size + u.size ≤ 9223372036854775807) (h : RL P C ops Q (k + 1) l ((t, .d (.s (s ++ u))) :: env) H) (hg : grd ops env o true = true := by rfl) (ho : o.op = .binOp .add xt x y yt := by rfl)
    (hx : deepOf (lk env x) = some (.s s) := by rfl) (hy : deepOf (lk env y) = some (.s u) := by rfl) (hd : o.dst = some t := by rfl) (hf : isOwn (get env t) = false := by rfl) (ht : okT C.nt t := by rfl) : RL P C ops Q k (o :: l) env H := by
  rw [← put_cons hf] at h
  refine .go hg (.pure (by simp [ho]) hd ht (fun X a w I μ O _ hs => ⟨.string (s ++ u), ?_, .of_rep (.s _)⟩) h)
  have h1 := hs.deep hx
  have h2 := hs.deep hy
  generalize hev : a.eval x = v1 at h1
  generalize hev2 : a.eval y = v2 at h2
  cases h1; cases h2
  simp [execOp, ho, hev, hev2, binOp, eqGuard_at_string, run_string_add_sum w s u hle]
end
end Go.FL
/-
  A FUNCTIONAL LOGIC, 28: strings are compared.
-/
namespace Go.FL
open Go Go.RowKit

section
variable {P : Program} {C : Cx} {X : Snap} {o : Oper} {ops : Array Oper} {Q : Exit → Env → Heap → Prop} {env env' : Env} {H H' : Heap} {a : Act} {w w' : World} {I I' : Nat → Prop} {μ μ' : List Nat} {O O' : Nat → Option Loc}
  {K : Env → Heap → Prop} {k : Nat} {l : List Oper}

theorem seq_ {op : BinOp} {xt yt : TypeId} {x y : Operand} {t : Nat} {s u : ByteArray} (h : RL P C ops Q (k + 1) l ((t, .d (.b (if op = .eql then decide (s = u) else !decide (s = u)))) :: env) H) (hg : grd ops env o true = true := by rfl)
    (ho : o.op = .binOp op xt x y yt := by rfl) (hx : deepOf (lk env x) = some (.s s) := by rfl) (hy : deepOf (lk env y) = some (.s u) := by rfl) (hd : o.dst = some t := by rfl) (hf : isOwn (get env t) = false := by rfl) (ht : okT C.nt t := by rfl) (hop : op = .eql ∨ op = .neq := by simp) : RL P C ops Q k (o :: l) env H := by
  rw [← put_cons hf] at h
  refine .go hg (.pure (by simp [ho]) hd ht (fun X a w I μ O _ hs => ⟨.bool (if op = .eql then decide (s = u) else !decide (s = u)), ?_, .of_rep (.b _)⟩) h)
  have h1 := hs.deep hx
  have h2 := hs.deep hy
  generalize hev : a.eval x = v1 at h1
  generalize hev2 : a.eval y = v2 at h2
  cases h1; cases h2
  have e : (s.toList == u.toList) = decide (s = u) := by
    by_cases hsu : s = u
    · subst hsu; simp
    · rw [decide_eq_false hsu]
      refine beq_eq_false_iff_ne.2 fun h3 => hsu ?_
      rw [ByteArray.toList_eq, ByteArray.toList_eq] at h3
      exact ByteArray.ext (Array.ext' h3)
  rcases hop with rfl | rfl
  · simp only [execOp, ho, hev, hev2, eqGuard_at_string, binOp_string_eql, Sem.run_bind, Sem.run_pure, Result.andThen_ok, e]; rfl
  · simp only [execOp, ho, hev, hev2, eqGuard_at_string, binOp_string_neq, Sem.run_bind, Sem.run_pure, Result.andThen_ok, e]; rfl
end
end Go.FL
/-
  slices.Backward: its iterator.
-/
namespace Go.FL
open Go Go.Proofs Go.RowKit

attribute [local go_sem] Oper.semAt_some

set_option maxRecDepth 100000 in
set_option maxHeartbeats 2000000 in
theorem bw_in (F : Fence) (n : Nat) (hF : F.fn 69) (hro : F.round = none) (hn : 1 ≤ n) (l : Nat) (bx : Nat) (ox : Nat) (A : Option Addr) (b off cap : Nat) (vs : List Value) (J : Nat → World → Prop) (hr : vs.length ≤ 1048576) (hA : 0 < vs.length → A = some ⟨b, off, none⟩)
    (hbx : ∀ k W', J k W' → W'.cell? ⟨bx, ox, none⟩ = some (.slice A vs.length cap)) (hc : ∀ k W', J k W' → ∀ j u, vs[j]? = some u → W'.cell? ⟨b, off + j, none⟩ = some u)
    (hY : ∀ k W1 u, J k W1 → k < vs.length → vs[vs.length - 1 - k]? = some u → YieldAt F (n - 1) Try.prog l #[.int .i64 ((vs.length - 1 - k : Nat) : Int), u] W1 fun e W' => e = .returned (.bool true) ∧ J (k + 1) W')
    (W : World) (h0 : J 0 W) :
    CallsIn F n Try.prog 69 #[.func (.yield l) #[] #[], .pointer (some ⟨bx, ox, none⟩)] W fun e W' => (∃ v, e = .returned v) ∧ J vs.length W' := by
  refine callsIn_of_wp Try.func69 rfl hF ?_ hro
  simp only [Try.ntmps69, List.size_toArray, List.length_cons, List.length_nil, Nat.reduceAdd, Nat.reduceSub, Array.replicate_succ, Array.replicate_zero, List.push_toArray, List.append_toArray, List.nil_append, List.cons_append]
  have hbx0 := hbx 0 W h0
  gi_wp2
  gi_loopw [3] (fun i wr => ∃ k : Nat, k ≤ vs.length ∧ i = .int .i64 ((vs.length : Int) - 1 - k) ∧ J k wr) (fun i _ => ((intOf i) + 1).toNat)
  case atStart => exact ⟨0, Nat.zero_le _, by simp, h0⟩
  case round =>
    obtain ⟨k, hk, rfl, hJs⟩ := hrel
    have hbx' := hbx k wr hJs
    by_cases hlt : k < vs.length
    · have hvk : vs[vs.length - 1 - k]? = some vs[vs.length - 1 - k] := List.getElem?_eq_getElem (by omega)
      obtain ⟨fn, tmps, assign, body, hy, hR⟩ := hY k wr _ hJs hlt hvk
      rw [show ((vs.length - 1 - k : Nat) : Int) = (vs.length : Int) - 1 - k by omega] at hy
      have hcx' := hc k wr hJs _ _ hvk
      have hAA := hA (by omega)
      subst hAA
      gi_wp2
      refine hR.mono ?_
      rintro e W3 ⟨rfl, hJ3⟩
      gi_wp2
      go_roundw
      case rel => exact ⟨k + 1, by omega, by simp; omega, hJ3⟩
      case measure => simp [intOf]; omega
    · obtain rfl : k = vs.length := by omega
      gi_wp2
      go_end0
      exact ⟨⟨_, rfl⟩, hJs⟩

/-- What it yields: the places, from the last on, with what stands there. -/
def backY (xs : List DV) : List (List DV) := (List.range xs.length).map fun k => [.i .i64 ((xs.length - 1 - k : Nat) : Int), xs.getD (xs.length - 1 - k) .np]
theorem backY_length (xs : List DV) : (backY xs).length = xs.length := by simp [backY]
theorem backY_at {xs : List DV} {k : Nat} {ds : List DV} (h : (backY xs)[k]? = some ds) : k < xs.length ∧ ds = [.i .i64 ((xs.length - 1 - k : Nat) : Int), xs.getD (xs.length - 1 - k) .np] := by
  have h1 : k < (backY xs).length := (List.getElem?_eq_some_iff.1 h).1
  rw [backY_length] at h1
  refine ⟨h1, ?_⟩
  simp [backY, h1] at h
  rw [← h]; simp
theorem calls_any {P : Program} {n m : Nat} {f : FuncId} {args : Array Value} {w : World} {R : Ending → World → Prop} (h : CallsIn (om none) n P f args w R) : CallsIn (om none) m P f args w R := ⟨h.1, fun cs _ => h.2 cs (room_wide _)⟩
theorem RepRows.leaf1 {w : World} {I : Nat → Prop} : ∀ {xs : List DV} {vs : List Value}, RepRows w I 1 xs vs → (∀ x ∈ xs, x.leaf = true) → RepAll w I xs vs := by
  intro xs
  induction xs with
  | nil => intro vs h _; cases h; exact .nil
  | cons x xs ih =>
    intro vs h hx
    cases h with
    | cons hl h1 h t =>
      rename_i us vs'
      rw [DV.leaf_cells (hx x (by simp))] at h
      cases h with
      | cons hh tt => cases tt; exact .cons hh (ih t fun y hy => hx y (by simp [hy]))
theorem RepRows.size1 {w : World} {I : Nat → Prop} {sz : Nat} {xs : List DV} {vs : List Value} (h : RepRows w I sz xs vs) (hx : ∀ x ∈ xs, x.leaf = true) (hne : xs ≠ []) : sz = 1 := by
  cases h with
  | nil => exact absurd rfl hne
  | cons hl h1 h t =>
    rename_i x xs' us vs'
    rw [DV.leaf_cells (hx x (by simp))] at h
    have := h.length
    rw [← hl, ← this]; rfl
theorem bw_it (xs : List DV) (hx : ∀ x ∈ xs, x.leaf = true) (hl : xs.length ≤ 1048576) : It Try.prog 69 [.ptr [.sl xs]] (backY xs) := by
  intro l W I cv J hJ hcv hY h0
  cases hcv with
  | cons hp ht =>
  cases ht
  cases hp with
  | ptr _ bk o us hI hh hr =>
  cases hr with
  | cons hs hn =>
  cases hn
  rename_i u
  have hbx : ∀ k W', J k W' → W'.cell? ⟨bk, o, none⟩ = some u := fun k W' hj => by
    have := hh 0 u rfl
    rw [World.cell?_of_block (w := W) (w' := W') (a := ⟨bk, o, none⟩) (hJ k W' hj bk hI)]
    simpa using this
  cases hs with
  | sl0 A c =>
    exact calls_any (bw_in (om none) 1 trivial rfl (Nat.le_refl _) l bk o A 0 0 c [] J (by simp) (by simp) hbx (by simp) (by simp) W h0)
  | sl xs bk' o' sz c vs hne hc hI' hsz hh' hr =>
    have hs1 := hr.size1 hx hne
    subst hs1
    have hra := hr.leaf1 hx
    have hlv : xs.length = vs.length := hra.length
    have hcell : ∀ k W', J k W' → ∀ j v, vs[j]? = some v → W'.cell? ⟨bk', o' + j, none⟩ = some v := fun k W' hj j v hv => by
      rw [World.cell?_of_block (w := W) (w' := W') (a := ⟨bk', o' + j, none⟩) (hJ k W' hj bk' hI')]
      exact hh' j v hv
    have := bw_in (om none) 1 trivial rfl (Nat.le_refl _) l bk o (some ⟨bk', o', none⟩) bk' o' c vs J (by omega) (fun _ => rfl) (by rw [← hlv]; exact hbx) hcell (fun k W1 v hj hk hv => ?_) W h0
    · rw [backY_length, hlv]; exact calls_any this
    · have hk' : k < xs.length := by omega
      have hx1 : xs[xs.length - 1 - k]? = some xs[xs.length - 1 - k] := List.getElem?_eq_getElem (by omega)
      obtain ⟨v', hv1, hv2⟩ := hra.get _ _ hx1
      rw [hlv, hv] at hv1
      cases hv1
      have hyk : (backY xs)[k]? = some [.i .i64 ((xs.length - 1 - k : Nat) : Int), xs.getD (xs.length - 1 - k) .np] := by
        simp [backY, hk']
      rw [← hlv]
      refine hY k W1 _ [.int .i64 ((xs.length - 1 - k : Nat) : Int), v] hj hyk (.cons (.i _ _) (.cons ?_ .nil))
      rw [List.getD_eq_getElem?_getD, hx1]
      exact hv2.keep (hJ k W1 hj) fun _ h => h
end Go.FL
/-
  slices.Backward.
-/
namespace Go.FL
open Go Go.Proofs

theorem Backward_fn (xs : List DV) : Fn Try.prog 57 [.sl xs] (.d (.fn 69 [] [.ptr [.sl xs]])) := by
  refine Fn.of (rs := [.tmp 2]) (nt := 4) Try.func57 rfl rfl rfl (by simp) rfl ?_
  refine .seq ?_
  refine .region ?_
  refine bxd ?_
  refine asd ?_
  refine rn ?_
  refine .seq ?_
  refine .region ?_
  refine mkf ?_
  refine asd ?_
  refine rn ?_
  refine .ret ?_
  exact ⟨rfl, rfl⟩
end Go.FL
/-
  nat.Small.
-/
namespace Go.FL
open Go Go.Proofs

theorem wraps_i64 (n : Int) (h₀ : 0 ≤ n) (h₁ : n < 2 ^ 63) : IntKind.i64.wrap n = n := by
  simp only [IntKind.wrap, IntKind.bits, IntKind.signed]; simp; omega
theorem i64_join {x y : Nat} (hx : x < 2147483648) (hy : y < 4294967296) : bits .or .i64 ((x * 4294967296 : Nat) : Int) (y : Int) = ((x * 4294967296 + y : Nat) : Int) := by
  rw [bits_join .i64 63 (by decide) wraps_i64 32 ((x * 4294967296 : Nat) : Int) (y : Int) (by omega) (by omega) (by omega) (by omega) (by omega) (by omega)]
  omega
theorem zi64 (w : World) : (zeroValue 3).run Try.prog w = .ok (.int .i64 0) w := by
  simp
theorem zi1 : szOf Try.prog 3 = 1 := by kernel_rfl
theorem ai1 : aggT Try.prog 3 = some false := by kernel_rfl
theorem val_at {xs : List Nat} {j : Nat} (h : j < xs.length) : val (xs.drop j) = xs[j] + 4294967296 * val (xs.drop (j + 1)) := by
  rw [List.drop_eq_getElem_cons h]; simp [val]
theorem val_small {xs : List Nat} (h : Ok xs) (hl : xs.length ≤ 2) (hv : val xs < 9223372036854775808) : ∀ j, val (xs.drop (j + 1)) < 2147483648 := by
  intro j
  match xs, hl with
  | [], _ => simp [val]
  | [x], _ => cases j <;> simp [val]
  | [x, y], _ =>
    cases j with
    | zero => simp [val] at hv ⊢; omega
    | succ j => cases j <;> simp [val]
def smallN (a : List Nat) : Nat := if bitsN (val a) ≤ 63 then val a else 0
theorem Small_fn {a : List Nat} (h : Ok a) (hl : a.length ≤ 1048576) : Fn Try.prog 22 [.sl (L a)] (.tup [.d (.i .i64 (smallN a : Nat)), .d (.b (decide (bitsN (val a) ≤ 63)))]) := by
  refine Fn.ofM (rs := [.tmp 2, .tmp 3]) (nt := 21) Try.func22 rfl rfl rfl (by simp) rfl ?_
  refine .seqA ?_
  refine .region ?_
  refine asd ?_
  refine asd ?_
  refine rn ?_
  show AWM _ _ _ _ _ _
  refine .seqA ?_
  refine .seq ?_
  refine .region ?_
  refine mvd ?_
  refine cl (xs := [.sl (L a)]) ?_ (Bits_fn h hl) Try.call32
  refine bi ?_
  refine rn ?_
  by_cases hb : bitsN (val a) ≤ 63
  · rw [decide_eq_false (show ¬ ((63 : Int) < (bitsN (val a) : Int)) by omega)]
    refine cndf ?_
    refine .skip ?_
    show AWM _ _ _ _ _ _
    have hv63 : val a < 9223372036854775808 := bitsN_iff.1 hb
    have hlen2 : (digs (val a)).length ≤ 2 := digs_len (by omega)
    have hvd := val_digs (val a)
    have hvs := val_small (digs_ok (val a)) hlen2 (by rw [hvd]; exact hv63)
    have hdok := digs_ok (val a)
    refine .seqA ?_
    refine .region ?_
    refine al ?_ zi64 (fun w I μ => .cons (c := .d (.i .i64 0)) (b1 := []) (.d (.i _ _)) .nil)
    refine stb (cs := [.d (.i .i64 0)]) (c := .d (.i .i64 0)) rfl rfl ?_ zi1
    refine rn ?_
    show AWM _ _ _ _ _ _
    refine .seq rfl ?_
    refine .seqA ?_
    refine .region ?_
    refine mvd ?_
    refine cl (xs := [.sl (L a)]) ?_ (cut_fn a (by omega)) Try.call46
    rw [cutL_val h]
    refine cl (xs := [.sl (L (digs (val a)))]) ?_ (Backward_fn (L (digs (val a)))) Try.call57
    refine rn ?_
    show AWM _ _ _ _ _ _
    generalize digs (val a) = xs at *
    have hys : ∀ ds ∈ backY (L xs), ds.length = 2 := fun ds hds => by
      obtain ⟨k, hk⟩ := List.getElem?_of_mem hds
      rw [(backY_at hk).2]; rfl
    have hit := bw_it (L xs) (by intro x hx; simp only [L, List.mem_map] at hx; obtain ⟨n, _, rfl⟩ := hx; rfl) (by rw [L_length]; omega)
    refine .block ?_
    refine .rangeFunc rfl rfl rfl Try.call69 hit hys (by decide) (by decide) rfl (fun k => [.box [.d (.i .i64 ((val (xs.drop (xs.length - k)) : Nat) : Int))]]) (by simp [val]) ?_ ?_
    · intro l k d1 d2 hk
      obtain ⟨hk1, hk2⟩ := backY_at hk
      rw [L_length] at hk1 hk2
      have hj : xs.length - 1 - k < xs.length := by omega
      have hxat : (L xs).getD (xs.length - 1 - k) .np = U xs[xs.length - 1 - k] := by
        rw [List.getD_eq_getElem?_getD, L_at (List.getElem?_eq_getElem hj)]; rfl
      rw [hxat] at hk2
      simp only [List.cons.injEq, and_true] at hk2
      obtain ⟨rfl, rfl⟩ := hk2
      have hva := val_at hj
      have hx := hdok.at (List.getElem?_eq_getElem hj)
      have hsm := hvs (xs.length - 1 - k)
      have e1 : xs.length - 1 - k + 1 = xs.length - k := by omega
      have e2 : xs.length - (k + 1) = xs.length - 1 - k := by omega
      rw [e1] at hva hsm
      rw [e2]
      generalize xs[xs.length - 1 - k] = x at *
      generalize val (xs.drop (xs.length - k)) = n at *
      rw [hva]
      refine .region ?_
      refine asd ?_
      refine rn ?_
      show AW _ _ _ _ _ _
      refine .block ?_
      refine .region ?_
      refine ldb (cs := [.d (.i .i64 (n : Int))]) (c := .d (.i .i64 (n : Int))) rfl rfl ?_ ai1
      refine bie (.i .i64 ((n * 4294967296 : Nat) : Int)) ?_ ?_
      · refine ⟨by decide, ?_⟩
        have : IntKind.i64.wrap ((n : Int) * 4294967296) = ((n * 4294967296 : Nat) : Int) := by
          rw [wraps_i64 _ (by omega) (by omega)]; omega
        rw [← this]; simp [IntKind.bits]
      refine mvd ?_
      refine cve (x : Int) (wraps_i64 _ (by omega) (by omega)) ?_ u32 i64
      refine bie (.i .i64 ((n * 4294967296 + x : Nat) : Int)) ?_ ?_
      · exact ⟨trivial, by rw [i64_join hsm hx]⟩
      refine stb (cs := [.d (.i .i64 (n : Int))]) (c := .d (.i .i64 (n : Int))) rfl rfl ?_ zi1
      refine .nil ?_
      refine ⟨rfl, ?_⟩
      rw [show n * 4294967296 + x = x + 4294967296 * n by omega]
      rfl
    · show AWM _ _ _ _ _ _
      refine .lift ?_
      rw [backY_length, L_length, Nat.sub_self, List.drop_zero, hvd]
      refine .seq ?_
      refine .region ?_
      refine ldb (cs := [.d (.i .i64 ((val a : Nat) : Int))]) (c := .d (.i .i64 ((val a : Nat) : Int))) rfl rfl ?_ ai1
      refine asd ?_
      refine asd ?_
      refine rn ?_
      refine .ret ?_
      exact ⟨by decide, by rw [decide_eq_true hb, smallN, if_pos hb]; rfl, rfl, rfl⟩
  · rw [decide_eq_true (show ((63 : Int) < (bitsN (val a) : Int)) by omega)]
    refine cndt ?_
    refine .seq ?_
    refine .region ?_
    refine asd ?_
    refine asd ?_
    refine rn ?_
    refine .ret ?_
    exact ⟨by decide, by rw [decide_eq_false hb, smallN, if_neg hb]; rfl, rfl, rfl⟩
end Go.FL
/-
  slices.Reverse of bytes.
-/
namespace Go.FL
open Go Go.Proofs

theorem s8 : sliceT Try.prog 65 = some (5, 1, 1) := by kernel_rfl
theorem e8 : elemT Try.prog 65 = some (5, 1, 1, .int .u8 0) := by kernel_rfl
theorem l8 : Try.prog.underlying 65 = some (.slice (Try.prog.elem 65)) := by kernel_rfl
theorem q8 : Try.prog.underlying 65 = some (.slice 5) := by kernel_rfl
theorem a8 : aggT Try.prog 5 = some false := by kernel_rfl
theorem z8 : szOf Try.prog 5 = 1 := by kernel_rfl
theorem B_at' {ns : List Nat} {i n : Nat} (h : ns[i]? = some n) : ∃ x, (B ns)[i]? = some x ∧ x.cells[0]? = some (.i .u8 (n : Int)) := ⟨_, B_at h, rfl⟩
theorem B_leaf {ns : List Nat} {i n : Nat} (h : ns[i]? = some n) : ∃ x, (B ns)[i]? = some x ∧ x.leaf = true := ⟨_, B_at h, rfl⟩

/-- The first i and the last i are exchanged. -/
def revI (ns : List Nat) (i : Nat) : List Nat := (List.range ns.length).map fun j => if j < i ∨ ns.length < j + i + 1 then ns.getD (ns.length - 1 - j) 0 else ns.getD j 0
theorem revI_length (ns : List Nat) (i : Nat) : (revI ns i).length = ns.length := by simp [revI]
theorem revI_at {ns : List Nat} {i j : Nat} (h : j < ns.length) : (revI ns i)[j]? = some (if j < i ∨ ns.length < j + i + 1 then ns.getD (ns.length - 1 - j) 0 else ns.getD j 0) := by simp [revI, h]
theorem revI_zero (ns : List Nat) : revI ns 0 = ns := by
  apply List.ext_getElem?
  intro j
  by_cases h : j < ns.length
  · rw [revI_at h, if_neg (by omega), List.getD_eq_getElem?_getD, List.getElem?_eq_getElem h]; rfl
  · rw [List.getElem?_eq_none (by rw [revI_length]; omega), List.getElem?_eq_none (by omega)]
theorem revI_full (ns : List Nat) {i : Nat} (hi : ns.length ≤ 2 * i + 1) : revI ns i = ns.reverse := by
  apply List.ext_getElem?
  intro j
  by_cases h : j < ns.length
  · rw [revI_at h, List.getElem?_reverse h]
    by_cases hc : j < i ∨ ns.length < j + i + 1
    · rw [if_pos hc, List.getD_eq_getElem?_getD, List.getElem?_eq_getElem (by omega)]; rfl
    · have : ns.length - 1 - j = j := by omega
      rw [if_neg hc, this, List.getD_eq_getElem?_getD, List.getElem?_eq_getElem h]; rfl
  · rw [List.getElem?_eq_none (by rw [revI_length]; omega), List.getElem?_eq_none (by simp; omega)]
theorem revI_step (ns : List Nat) {i : Nat} (hi : 2 * i + 1 < ns.length) : ((revI ns i).set i (ns.getD (ns.length - 1 - i) 0)).set (ns.length - 1 - i) (ns.getD i 0) = revI ns (i + 1) := by
  apply List.ext_getElem?
  intro j
  by_cases h : j < ns.length
  · rw [revI_at h, List.getElem?_set, List.getElem?_set, revI_at h, List.length_set, revI_length]
    by_cases h1 : ns.length - 1 - i = j
    · rw [if_pos h1, if_pos (by omega), if_pos (by omega), ← h1, show ns.length - 1 - (ns.length - 1 - i) = i by omega]
    · rw [if_neg h1]
      by_cases h2 : i = j
      · rw [if_pos h2, if_pos (by omega), if_pos (by omega), h2]
      · rw [if_neg h2]
        by_cases hc : j < i ∨ ns.length < j + i + 1
        · rw [if_pos hc, if_pos (by omega)]
        · rw [if_neg hc, if_neg (by omega)]
  · rw [List.getElem?_eq_none (by simp [revI_length]; omega), List.getElem?_eq_none (by rw [revI_length]; omega)]

theorem Reverse_fn {H : Heap} {ns : List Nat} (hl : ns.length ≤ 1073741824) : FnG Try.prog 60 [.own 5 (B ns)] H (.tup []) [.own 5 (B ns.reverse)] H := by
  refine FnG.of (rs := []) 1 28 Try.func60 rfl rfl rfl (by simp) (by simp) (by simp) ?_
  refine .seq ?_
  refine .region ?_
  refine mvo ?_
  refine lnr ?_ l8
  refine su ((ns.length : Int) - 1) ?_ ?_
  · rw [B_length]; omega
  refine asd ?_
  refine asd ?_
  refine rn ?_
  refine .block ?_
  refine .loop (.gh (Gh.keep [0, 2, 3] rfl) ?_)
  refine AL.cast (env' := [(0, .own 5 (B (revI ns 0))), (2, .d (.i .i64 ((0 : Nat) : Int))), (3, .d (.i .i64 ((ns.length : Int) - 1 - ((0 : Nat) : Int))))]) (by rw [revI_zero]; simp; rfl) ?_
  refine AL.ind (σ := Nat) (m := fun i => ns.length - i) (e := fun i => [(0, .own 5 (B (revI ns i))), (2, .d (.i .i64 (i : Int))), (3, .d (.i .i64 ((ns.length : Int) - 1 - (i : Int))))]) (h := fun _ => H)
    (I := fun i => i ≤ ns.length) ?_ 0 (Nat.zero_le _)
  intro i h1 ih
  refine .seq ?_
  refine .seq ?_
  refine .region ?_
  refine mvd ?_
  refine mvd ?_
  refine bi ?_
  refine rn ?_
  by_cases hi : 2 * i + 1 < ns.length
  · rw [decide_eq_true (show (i:Int) < (ns.length : Int) - 1 - (i : Int) by omega)]
    refine cndt ?_
    refine .skip ?_
    show AW _ _ _ _ _ _
    have hjl : ns.length - 1 - i < ns.length := by omega
    have hxi : (revI ns i)[i]? = some (ns.getD i 0) := by rw [revI_at (by omega), if_neg (by omega)]
    have hxj : (revI ns i)[ns.length - 1 - i]? = some (ns.getD (ns.length - 1 - i) 0) := by rw [revI_at hjl, if_neg (by omega)]
    have hst := revI_step ns hi
    have hrl := revI_length ns i
    generalize ns.getD i 0 = x at *
    generalize ns.getD (ns.length - 1 - i) 0 = y at *
    refine .seq ?_
    refine .block ?_
    refine .drawnF 13 [2, 3] [(0, .own 5 ((B (revI ns i)).set i (.i .u8 (y : Int))))] H mixed (by kernel_rfl) rfl ?_
    refine dv vmvo ?_
    refine dv vmvd ?_
    refine dv vmvo ?_
    refine dv vmvd ?_
    refine dv vmvo ?_
    refine dv vmvd ?_
    refine dv (vixr (ns.length - 1 - i) ?_ ?_ s8 (by decide)) ?_
    · omega
    · rw [B_length, hrl]; omega
    refine dv (vlde (.i .u8 (y : Int)) ?_ a8) ?_
    · rw [Nat.zero_add]; exact B_at' hxj
    refine dv vmvo ?_
    refine dv vmvd ?_
    refine dv (vixr i ?_ ?_ s8 (by decide)) ?_
    · omega
    · rw [B_length, hrl]; omega
    refine dv (vlde (.i .u8 (x : Int)) ?_ a8) ?_
    · rw [Nat.zero_add]; exact B_at' hxi
    refine dv (vixr i ?_ ?_ s8 (by decide)) ?_
    · omega
    · rw [B_length, hrl]; omega
    refine dz ?_
    refine ⟨?_, ?_, ?_⟩
    · intro k hk
      simp only [List.mem_cons, List.not_mem_nil, or_false] at hk
      rcases hk with rfl | rfl
      · refine ⟨_, _, _, rfl, rfl, rfl, rfl, rfl, ?_⟩
        show VOK _ _ _ _ _ (.ref (.t 0) 0 (B (revI ns i)).length)
        rw [show (B (revI ns i)).length = ((B (revI ns i)).set i (.i .u8 (y : Int))).length by rw [List.length_set]]
        exact vmvo
      · exact ⟨_, _, _, rfl, rfl, rfl, rfl, rfl, vmvd⟩
    · intro om e hom hge
      cases hom
      have hnf : ∀ t, t ≠ 16 → t ≠ 17 → ∀ k ∈ [2, 3], ∀ v, ([(26, AV.ep (.t 0) (0 + i) 0), (25, .d (.i .u8 (x : Int))), (24, .ep (.t 0) (0 + i) 0), (23, .d (.i .i64 (i : Int))), (22, .ref (.t 0) 0 (B (revI ns i)).length), (21, .d (.i .u8 (y : Int))), (20, .ep (.t 0) (0 + (ns.length - 1 - i)) 0), (19, .d (.i .i64 ((ns.length : Int) - 1 - (i : Int)))), (18, .ref (.t 0) 0 (B (revI ns i)).length), (17, .d (.i .i64 ((ns.length : Int) - 1 - (i : Int)))), (16, .ref (.t 0) 0 (B (revI ns i)).length), (15, .d (.i .i64 (i : Int))), (14, .ref (.t 0) 0 (B (revI ns i)).length)] : Env).reverse[k]? ≠ some (t, v) := by
        intro t ht1 ht2 k hk v
        simp only [List.mem_cons, List.not_mem_nil, or_false] at hk
        rcases hk with rfl | rfl <;> simp [Ne.symm ht1, Ne.symm ht2]
      have g26 : get e 26 = .ep (.t 0) i 0 := (hge 26 (hnf 26 (by decide) (by decide))).trans (by show AV.ep (.t 0) (0 + i) 0 = _; rw [Nat.zero_add])
      have g21 : get e 21 = .d (.i .u8 (y : Int)) := hge 21 (hnf 21 (by decide) (by decide))
      have g0 : get e 0 = .own 5 (B (revI ns i)) := hge 0 (hnf 0 (by decide) (by decide))
      refine ok_st_ep (x := .tmp 26) (y := .tmp 21) (r := 26) (ay := .t 21) (p := .t 0) (i := i) (k := 0) (v := .i .u8 (y : Int)) (x' := .i .u8 (y : Int)) rfl rfl rfl rfl z8 g26 g0 (fun _ _ h => by cases h) g21 rfl ?_ ⟨rfl, rfl⟩
      rw [List.getD_eq_getElem?_getD, B_at hxi]; rfl
    · refine ixr (ns.length - 1 - i) ?_ ?_ ?_ s8 (by decide)
      · omega
      · rw [B_length, hrl]; omega
      refine ste ?_ ?_ z8
      · rw [Nat.zero_add]
        rw [B_set]
        exact B_leaf (n := y) (by rw [List.getElem?_set_ne (by omega)]; exact hxj)
      refine .nil ?_
      show AW _ _ _ _ _ _
      rw [Nat.zero_add, B_set, B_set, hst]
      refine .region ?_
      refine mvd ?_
      refine ad ((i + 1 : Nat) : Int) ?_ ?_
      · omega
      refine mvd ?_
      refine su ((ns.length : Int) - 1 - ((i + 1 : Nat) : Int)) ?_ ?_
      · omega
      refine asd ?_
      refine asd ?_
      refine rn ?_
      refine .gh (Gh.keep [0, 2, 3] rfl) ?_
      exact ih (i + 1) (by omega) (by omega)
  · rw [decide_eq_false (show ¬ ((i:Int) < (ns.length : Int) - 1 - (i : Int)) by omega)]
    refine cndf ?_
    refine .exit ?_
    refine ⟨⟨[], by simp⟩, rfl, ?_⟩
    intro k c hk
    cases k with
    | zero =>
      simp at hk; subst hk
      exact ⟨by rw [← revI_full ns (i := i) (by omega)]; rfl, rfl, by simp⟩
    | succ k => simp at hk
end Go.FL
/-
  Decimal digits, the last one first.
-/
namespace Go.FL
open Go Go.Proofs

def decR (n : Nat) : List Nat := if h : n = 0 then [] else (48 + n % 10) :: decR (n / 10)
termination_by n
decreasing_by omega
theorem decR_zero : decR 0 = [] := by unfold decR; simp
theorem decR_pos {n : Nat} (h : n ≠ 0) : decR n = (48 + n % 10) :: decR (n / 10) := by
  rw [decR]; simp [h]
/-- A number's text. -/
def decT (n : Nat) : List Nat := if n = 0 then [48] else (decR n).reverse
def dval : List Nat → Nat
  | [] => 0
  | x :: r => (x - 48) + 10 * dval r
def Dig (xs : List Nat) : Prop := ∀ x ∈ xs, 48 ≤ x ∧ x ≤ 57
theorem dval_append (a b : List Nat) : dval (a ++ b) = dval a + 10 ^ a.length * dval b := by
  induction a with
  | nil => simp [dval]
  | cons x r ih => simp only [List.cons_append, dval, ih, List.length_cons, Nat.pow_succ, Nat.mul_add]; rw [Nat.mul_comm (10 ^ r.length) 10, Nat.mul_assoc]; omega
theorem decR_dig (n : Nat) : Dig (decR n) := by
  induction n using Nat.strongRecOn with
  | ind n ih =>
    by_cases h : n = 0
    · subst h; rw [decR_zero]; intro x hx; simp at hx
    · rw [decR_pos h]
      intro x hx
      rcases List.mem_cons.1 hx with rfl | hx
      · omega
      · exact ih (n / 10) (by omega) x hx
theorem dval_decR (n : Nat) : dval (decR n) = n := by
  induction n using Nat.strongRecOn with
  | ind n ih =>
    by_cases h : n = 0
    · subst h; rw [decR_zero]; rfl
    · rw [decR_pos h, dval, ih (n / 10) (by omega)]; omega
/-- Digits are those of their value, and noughts behind. -/
theorem dig_pad : ∀ (xs : List Nat), Dig xs → ∃ k, xs = decR (dval xs) ++ List.replicate k 48
  | [], _ => ⟨0, by simp [dval, decR_zero]⟩
  | x :: r, h => by
    obtain ⟨k, hk⟩ := dig_pad r (fun y hy => h y (by simp [hy]))
    have hx := h x (by simp)
    by_cases h0 : x - 48 + 10 * dval r = 0
    · have h1 : dval r = 0 := by omega
      rw [h1, decR_zero] at hk
      refine ⟨k + 1, ?_⟩
      rw [dval, h0, decR_zero, List.replicate_succ, List.nil_append, show x = 48 by omega]
      congr 1
    · refine ⟨k, ?_⟩
      rw [dval, decR_pos h0, show (x - 48 + 10 * dval r) / 10 = dval r by omega, show 48 + (x - 48 + 10 * dval r) % 10 = x by omega, List.cons_append, ← hk]
theorem decR_last {n : Nat} (h : n ≠ 0) : ∃ xs x, decR n = xs ++ [x] ∧ x ≠ 48 := by
  induction n using Nat.strongRecOn with
  | ind n ih =>
    rw [decR_pos h]
    by_cases h1 : n / 10 = 0
    · rw [h1, decR_zero]
      exact ⟨[], _, rfl, by omega⟩
    · obtain ⟨xs, x, e, hx⟩ := ih (n / 10) (by omega) h1
      exact ⟨_ :: xs, x, by rw [e]; rfl, hx⟩
theorem decR_ne {n : Nat} (h : n ≠ 0) : decR n ≠ [] := by rw [decR_pos h]; simp
theorem decR_len {n k : Nat} (h : n < 10 ^ k) : (decR n).length ≤ k := by
  induction k generalizing n with
  | zero => simp at h; subst h; simp [decR_zero]
  | succ k ih =>
    by_cases h0 : n = 0
    · subst h0; simp [decR_zero]
    · rw [decR_pos h0, List.length_cons]
      have := ih (n := n / 10) (by rw [Nat.pow_succ] at h; omega)
      omega
end Go.FL
/-
  nat.Print.
-/
namespace Go.FL
open Go Go.Proofs

theorem z8p : 0 < szOf Try.prog 5 := by rw [z8]; decide
theorem tmod10 (n : Nat) : Int.tmod (n : Int) 10 = ((n % 10 : Nat) : Int) := rfl
theorem tdiv10 (n : Nat) : Int.tdiv (n : Int) 10 = ((n / 10 : Nat) : Int) := rfl
theorem Dig.snoc {xs : List Nat} {x : Nat} (h : Dig xs) (h1 : 48 ≤ x) (h2 : x ≤ 57) : Dig (xs ++ [x]) := by
  intro y hy
  rcases List.mem_append.1 hy with hy | hy
  · exact h y hy
  · simp at hy; subst hy; exact ⟨h1, h2⟩
theorem dval_snoc (xs : List Nat) (n : Nat) (M : Nat) : dval (xs ++ [48 + n % 10]) + 10 ^ (xs ++ [48 + n % 10]).length * (n / 10 + M) = dval xs + 10 ^ xs.length * (n + 10 * M) := by
  have e1 : (xs ++ [48 + n % 10]).length = xs.length + 1 := by simp
  have e2 : n + 10 * M = n % 10 + 10 * (n / 10 + M) := by omega
  have e3 : dval [48 + n % 10] = n % 10 := by simp [dval]
  rw [e1, e2, dval_append, e3, Nat.pow_succ, Nat.mul_add (10 ^ xs.length) (n % 10), Nat.mul_assoc, Nat.add_assoc]
theorem out_len {xs : List Nat} {m N l : Nat} (h : dval xs + 10 ^ xs.length * m = N) (hm : 0 < m) (hN : N < 4294967296 ^ l) : xs.length ≤ 32 * l := by
  have h1 : 10 ^ xs.length ≤ N := by
    have := Nat.mul_le_mul_left (10 ^ xs.length) hm
    omega
  have h2 : 2 ^ xs.length ≤ 10 ^ xs.length := Nat.pow_le_pow_left (by decide) _
  have h3 : 4294967296 ^ l = 2 ^ (32 * l) := by rw [Nat.pow_mul]
  rw [h3] at hN
  have h4 : 2 ^ xs.length < 2 ^ (32 * l) := by omega
  have := (Nat.pow_lt_pow_iff_right (a := 2) (by decide)).1 h4
  omega
theorem wrapU8i {n : Nat} (h : n < 256) : IntKind.u8.wrap (n : Int) = n := wrapU8 h
theorem digs_ne {m : Nat} (h : 0 < m) : 0 < (digs m).length := by rw [digs_pos (by omega)]; simp
/-- While noughts stand behind, more than one. -/
theorem strip_step {N : Nat} {xs : List Nat} {k : Nat} (hN : N ≠ 0) (hx : xs = decR N ++ List.replicate k 48) :
    (k = 0 → ∃ x, xs[xs.length - 1]? = some x ∧ x ≠ 48) ∧ (k ≠ 0 → 1 < xs.length ∧ xs[xs.length - 1]? = some 48 ∧ xs.take (xs.length - 1) = decR N ++ List.replicate (k - 1) 48) := by
  refine ⟨fun h => ?_, fun h => ?_⟩
  · subst h
    obtain ⟨ys, y, e, hy⟩ := decR_last hN
    subst hx
    refine ⟨y, ?_, hy⟩
    rw [e]; simp
  · obtain ⟨j, rfl⟩ := Nat.exists_eq_succ_of_ne_zero h
    have hne := List.length_pos_iff.2 (decR_ne hN)
    have e : xs = (decR N ++ List.replicate j 48) ++ [48] := by rw [hx, List.replicate_succ', List.append_assoc]
    have hl : xs.length = (decR N ++ List.replicate j 48).length + 1 := by rw [e]; simp; omega
    have hl2 : (decR N ++ List.replicate j 48).length = (decR N).length + j := by simp
    refine ⟨by omega, ?_, ?_⟩
    · rw [hl, Nat.add_sub_cancel, e, List.getElem?_append_right (by omega), Nat.sub_self]; rfl
    · rw [hl, Nat.add_sub_cancel, e, List.take_left]; rfl

theorem Print_fn {a : List Nat} (h : Ok a) (hl : a.length ≤ 1048576) : Fn Try.prog 35 [.sl (L a)] (.d (.s (bstr (decT (val a))))) := by
  have hNl := val_lt h
  refine Fn.of (rs := [.tmp 2]) (nt := 60) Try.func35 rfl rfl rfl (by simp) rfl ?_
  refine .seq ?_
  refine .region ?_
  refine asd ?_
  refine rn ?_
  refine .seq ?_
  refine .region ?_
  refine asn ?_
  refine rn ?_
  refine .mid (fun e H' => ∃ out, e = [(3, .own 5 (B out))] ∧ H' = [] ∧ Dig out ∧ dval out = val a ∧ out.length ≤ 33554441 ∧ (val a = 0 → out = [])) ?_ ?_
  · refine .seq ?_
    refine .region ?_
    refine mvd ?_
    refine cl (xs := [.sl (L a)]) ?_ (Trim_fn h (by omega)) Try.call26
    refine aso ?_
    refine rn ?_
    refine .block ?_
    refine .gh (Gh.nlOwn (t := 3) 5 z8p rfl) ?_
    refine .gh (Gh.frz (p := .t 0) rfl (fun _ _ h => by cases h)) ?_
    refine .loop (.gh (Gh.keep [0, 3] rfl) ?_)
    refine AL.ind (σ := List Nat × Nat) (m := fun s => s.2) (e := fun s => [(0, .d (.sl (L (digs s.2)))), (3, .own 5 (B s.1))]) (h := fun _ => [])
      (I := fun s => Dig s.1 ∧ dval s.1 + 10 ^ s.1.length * s.2 = val a ∧ (s.1 ≠ [] → val a ≠ 0) ∧ s.1.length ≤ 33554441) ?_ ([], val a) ⟨by intro x hx; simp at hx, by simp [dval], by simp, by simp⟩
    rintro ⟨out, m⟩ ⟨h1, h2, h3, h3'⟩ ih
    dsimp only at h1 h2 h3 h3' ih ⊢
    refine .seq ?_
    refine .seq ?_
    refine .region ?_
    refine mvd ?_
    refine ln ?_ (L_sz _) l32
    refine bi ?_
    refine rn ?_
    by_cases hm : m = 0
    · subst hm
      rw [digs_zero]
      refine cndf ?_
      refine .gh (Gh.keep [3] rfl) ?_
      refine .exit ?_
      refine ⟨out, rfl, rfl, h1, by simpa using h2, h3', fun h0 => ?_⟩
      by_cases ho : out = []
      · exact ho
      · exact absurd h0 (h3 ho)
    · have hdl := digs_ne (show 0 < m by omega)
      rw [decide_eq_true (show (0:Int) < ((L (digs m)).length : Nat) by rw [L_length]; omega)]
      have hol := out_len h2 (by omega) hNl
      have hmN : m ≤ val a := by
        have := Nat.mul_le_mul_right m (Nat.pow_pos (n := out.length) (show 0 < 10 by decide))
        omega
      have hml : (digs m).length ≤ 1048576 := Nat.le_trans (digs_len (Nat.lt_of_le_of_lt hmN hNl)) hl
      have hvm := val_digs m
      refine cndt ?_
      refine .skip ?_
      show AW _ _ _ _ _ _
      refine .block ?_
      refine .seq ?_
      refine .region ?_
      refine mvd ?_
      refine cl (xs := [.sl (L (digs m)), .i .u32 ((1000000000 : Nat) : Int)]) ?_ (small_fn (d := 1000000000) (digs_ok m) hml (by decide) (by decide)) Try.call47
      refine mvt ?_
      refine ex ?_
      refine ex ?_
      refine asd ?_
      refine asd ?_
      refine rn ?_
      rw [hvm]
      have hr : m % 1000000000 < 1000000000 := Nat.mod_lt _ (by decide)
      have hq : m = m % 1000000000 + 1000000000 * (m / 1000000000) := by omega
      have hqlt : m / 1000000000 < m := by omega
      generalize m % 1000000000 = r at *
      generalize m / 1000000000 = q at *
      refine .seq ?_
      refine .region ?_
      refine mvd ?_
      have hrl : (digs r).length ≤ 1048576 := Nat.le_trans (digs_len (n := r) (k := 1) (by omega)) (by decide)
      refine cl (xs := [.sl (L (digs r))]) ?_ (Small_fn (digs_ok r) hrl) Try.call22
      refine mvt ?_
      refine ex ?_
      refine ex ?_
      refine asd ?_
      refine asd ?_
      refine rn ?_
      have hsm : smallN (digs r) = r := by
        unfold smallN; rw [val_digs, if_pos (bitsN_iff.2 (by omega))]
      rw [hsm]
      refine .mid (fun e H' => ∃ out', e = [(3, .own 5 (B out')), (4, .d (.sl (L (digs q))))] ∧ H' = [] ∧ Dig out' ∧ dval out' + 10 ^ out'.length * q = val a ∧ out'.length = out.length + 9) ?_ ?_
      · refine .seq ?_
        refine .region ?_
        refine mvd ?_
        refine rn ?_
        refine .block ?_
        refine .loop (.gh (Gh.keep [3, 4, 6, 23] rfl) ?_)
        refine AL.ind (σ := List Nat × Nat × Nat) (m := fun s => 9 - s.2.2) (e := fun s => [(3, .own 5 (B s.1)), (4, .d (.sl (L (digs q)))), (6, .d (.i .i64 (s.2.1 : Int))), (23, .d (.i .i64 (s.2.2 : Int)))]) (h := fun _ => [])
          (I := fun s => Dig s.1 ∧ s.2.2 ≤ 9 ∧ s.2.1 < 10 ^ (9 - s.2.2) ∧ dval s.1 + 10 ^ s.1.length * (s.2.1 + 10 ^ (9 - s.2.2) * q) = val a ∧ s.1.length = out.length + s.2.2) ?_ (out, r, 0) ⟨h1, by simp, by simpa using hr, by rw [← h2, hq]; rfl, by simp⟩
        rintro ⟨o2, n, j⟩ ⟨g1, g2, g3, g4, g5⟩ ih2
        dsimp only at g1 g2 g3 g4 g5 ih2 ⊢
        refine .seq ?_
        refine .region ?_
        refine bi ?_
        refine rn ?_
        refine .seq ?_
        by_cases hj : j < 9
        · rw [decide_eq_true (show (j:Int) < 9 by omega)]
          have hpj : 10 ^ (9 - j) = 10 * 10 ^ (9 - (j + 1)) := by rw [show 9 - j = (9 - (j + 1)) + 1 by omega, Nat.pow_succ, Nat.mul_comm]
          have hn9 : n < 1000000000 := Nat.lt_of_lt_of_le g3 (by
            have := Nat.pow_le_pow_right (n := 10) (by decide) (show 9 - j ≤ 9 by omega)
            exact this)
          refine cndt ?_
          refine .skip ?_
          show AW _ _ _ _ _ _
          refine .seq ?_
          refine .block ?_
          refine .seq ?_
          refine .region ?_
          refine mvo ?_
          refine mvd ?_
          refine bie (.i .i64 ((n % 10 : Nat) : Int)) ?_ ?_
          · exact ⟨by decide, by rw [tmod10]⟩
          refine ad ((48 + n % 10 : Nat) : Int) ?_ ?_
          · omega
          refine cve ((48 + n % 10 : Nat) : Int) (wrapU8 (by omega)) ?_ i64 u8
          refine bsl ?_ ?_ e8
          · simp [DV.flat, DV.cells, DV.leaf]
          refine apr ?_ ?_ (B_sz [48 + n % 10]) e8
          · rw [B_length, B_length]; simp; omega
          refine aso ?_
          refine rn ?_
          refine .region ?_
          refine mvd ?_
          refine bie (.i .i64 ((n / 10 : Nat) : Int)) ?_ ?_
          · refine ⟨by decide, ?_⟩
            rw [tdiv10, wraps_i64 _ (by omega) (by omega)]
          refine asd ?_
          refine .nil ?_
          show AW _ _ _ _ _ _
          refine .region ?_
          refine ad ((j + 1 : Nat) : Int) ?_ ?_
          · omega
          refine mvd ?_
          refine rn ?_
          refine .gh (Gh.keep [3, 4, 6, 23] rfl) ?_
          have hB : (B o2).take (B o2).length ++ [DV.i .u8 ((48 + n % 10 : Nat) : Int)] = B (o2 ++ [48 + n % 10]) := by rw [List.take_length, B_append]; rfl
          have := ih2 (o2 ++ [48 + n % 10], n / 10, j + 1) ⟨g1.snoc (by omega) (by omega), by dsimp only; omega, ?_, ?_, by simp; omega⟩ (by dsimp only; omega)
          · rw [← hB] at this; exact this
          · dsimp only
            rw [hpj] at g3
            exact Nat.div_lt_of_lt_mul g3
          · dsimp only
            rw [dval_snoc, ← g4, hpj, Nat.mul_assoc]
        · have hj9 : j = 9 := by omega
          subst hj9
          refine cndf ?_
          refine .gh (Gh.keep [3, 4] rfl) ?_
          refine .exit ?_
          have hn0 : n = 0 := by simpa using g3
          subst hn0
          refine ⟨o2, rfl, rfl, g1, by simpa using g4, g5⟩
      · rintro _ _ ⟨out', rfl, rfl, k1, k2, k3⟩
        refine .region ?_
        refine mvd ?_
        refine asd ?_
        refine .gh (Gh.keep [0, 3] rfl) ?_
        refine .nil ?_
        exact ih (out', q) ⟨k1, k2, fun _ => by omega, by dsimp only; omega⟩ hqlt
  rintro _ _ ⟨out, rfl, rfl, h1, h2, h3, h4⟩
  obtain ⟨k, hk⟩ := dig_pad out h1
  rw [h2] at hk
  refine .mid (fun e H' => e = [(3, .own 5 (B (decR (val a))))] ∧ H' = []) ?_ ?_
  · refine .block ?_
    refine .loop (.gh (Gh.keep [3] rfl) ?_)
    refine AL.ind (σ := List Nat × Nat) (m := fun s => s.2) (e := fun s => [(3, .own 5 (B s.1))]) (h := fun _ => [])
      (I := fun s => (val a = 0 → s.1 = []) ∧ s.1 = decR (val a) ++ List.replicate s.2 48 ∧ s.1.length ≤ 33554441) ?_ (out, k) ⟨h4, hk, h3⟩
    rintro ⟨xs, k⟩ ⟨g1, g2, g3⟩ ih
    dsimp only at g1 g2 g3 ih ⊢
    refine .seq ?_
    refine .seq ?_
    refine .region ?_
    refine mvo ?_
    refine lnr ?_ l8
    refine bi ?_
    refine mvd ?_
    by_cases hx : 1 < xs.length
    · have hN : val a ≠ 0 := fun h0 => by rw [g1 h0] at hx; simp at hx
      obtain ⟨s1, s2⟩ := strip_step hN g2
      rw [decide_eq_true (show (1:Int) < ((B xs).length : Nat) by rw [B_length]; omega)]
      refine mvo ?_
      refine mvo ?_
      refine lnr ?_ l8
      refine su ((xs.length - 1 : Nat) : Int) ?_ ?_
      · rw [B_length]; omega
      refine ixr (xs.length - 1) ?_ ?_ ?_ s8 (by decide)
      · rfl
      · rw [B_length]; omega
      by_cases hk0 : k = 0
      · obtain ⟨x, hx1, hx2⟩ := s1 hk0
        subst hk0
        refine lde (.i .u8 (x : Int)) ?_ ?_ a8
        · rw [Nat.zero_add]; exact B_at' hx1
        refine bi ?_
        rw [decide_eq_false (show ¬ ((x : Int) = 48) from fun h48 => hx2 (by exact_mod_cast h48))]
        refine pkd ?_
        refine rn ?_
        refine cndf ?_
        refine .gh (Gh.keep [3] rfl) ?_
        refine .exit ?_
        refine ⟨?_, rfl⟩
        rw [g2]; simp; rfl
      · obtain ⟨t1, t2, t3⟩ := s2 hk0
        refine lde (.i .u8 ((48 : Nat) : Int)) ?_ ?_ a8
        · rw [Nat.zero_add]; exact B_at' t2
        refine bi ?_
        refine pkd ?_
        refine rn ?_
        refine cndt ?_
        refine .skip ?_
        show AW _ _ _ _ _ _
        refine .gh (Gh.keep [3] rfl) ?_
        refine .block ?_
        refine .region ?_
        refine mvo ?_
        refine mvo ?_
        refine lnr ?_ l8
        refine su ((xs.length - 1 : Nat) : Int) ?_ ?_
        · rw [B_length]; omega
        refine slr 0 (xs.length - 1) ?_ ?_ s8
        · rw [B_length]; omega
        refine ass ?_
        refine .nil ?_
        refine .gh (Gh.keep [3] rfl) ?_
        have := ih (xs.take (xs.length - 1), k - 1) ⟨fun h0 => absurd h0 hN, t3, by rw [List.length_take]; omega⟩ (by dsimp only; omega)
        rw [← B_take] at this
        exact this
    · rw [decide_eq_false (show ¬ ((1:Int) < ((B xs).length : Nat)) by rw [B_length]; omega)]
      refine gf ?_
      refine gf ?_
      refine gf ?_
      refine gf ?_
      refine gf ?_
      refine gf ?_
      refine gf ?_
      refine pkd ?_
      refine rn ?_
      refine cndf ?_
      refine .gh (Gh.keep [3] rfl) ?_
      refine .exit ?_
      refine ⟨?_, rfl⟩
      by_cases hN : val a = 0
      · rw [g1 hN, hN, decR_zero]; rfl
      · have : k = 0 := by
          by_cases hk0 : k = 0
          · exact hk0
          · exact absurd ((strip_step hN g2).2 hk0).1 hx
        subst this
        rw [g2]; simp; rfl
  rintro _ _ ⟨rfl, rfl⟩
  have hdl : (decR (val a)).length ≤ 33554441 := by rw [hk] at h3; simp at h3; omega
  refine .seq ?_
  refine .seq ?_
  refine .region ?_
  refine mvo ?_
  refine lnr ?_ l8
  refine bi ?_
  refine rn ?_
  by_cases hN : val a = 0
  · rw [hN, decR_zero]
    refine cndt ?_
    refine .seq ?_
    refine .region ?_
    refine asd ?_
    refine rn ?_
    refine .ret ?_
    exact ⟨rfl, rfl⟩
  · have hpos := List.length_pos_iff.2 (decR_ne hN)
    rw [decide_eq_false (show ¬ (((B (decR (val a))).length : Nat) : Int) = 0 by rw [B_length]; omega)]
    refine cndf ?_
    refine .skip ?_
    show AW _ _ _ _ _ _
    refine .seq ?_
    refine .gh (Gh.keep [3] rfl) ?_
    refine .region ?_
    refine mvo ?_
    refine clg1 (B (decR (val a)).reverse) (fun G => ?_) (Reverse_fn (by omega)) Try.call60
    refine rn ?_
    refine .seq ?_
    refine .region ?_
    refine fz (p := .t 3) ?_
    refine mvd ?_
    refine cvs (ns := (decR (val a)).reverse) q8 u8 st ?_ ?_
    · simpa using decR_ne hN
    refine asd ?_
    refine rn ?_
    refine .ret ?_
    exact ⟨by unfold decT; rw [if_neg hN]; rfl, rfl⟩
end Go.FL
/-
  nat.DivMod by one limb; live.
-/
namespace Go.FL
open Go Go.Proofs

theorem DivMod1_fn {a : List Nat} {d : Nat} (ha : Ok a) (hla : a.length ≤ 1048576) (hd0 : 0 < d) (hd : d < 4294967296) : Fn Try.prog 14 [.sl (L a), .sl (L [d])]
    (.tup [.d (.sl (L (digs (val a / d)))), .d (.sl (L (digs (val a % d)))), .d (.b true)]) := by
  have dla := Nat.le_trans (digs_len_le ha) hla
  have va := val_digs (val a)
  have oa := digs_ok (val a)
  refine Fn.of (rs := [.tmp 4, .tmp 5, .tmp 6]) (nt := 163) Try.func14 rfl rfl rfl (by simp) rfl ?_
  refine .seq ?_
  refine .region ?_
  refine asn ?_
  refine asn ?_
  refine asd ?_
  refine rn ?_
  refine .seq ?_
  refine .region ?_
  refine mvd ?_
  refine cl (xs := [.sl (L a)]) ?_ (cut_fn a (by omega)) Try.call46
  refine mvd ?_
  refine cl (xs := [.sl (L [d])]) ?_ (cut_fn [d] (by simp)) Try.call46
  refine asd ?_
  refine asd ?_
  refine rn ?_
  have hcut : cutL [d] = [d] := cutL_pos [] (x := d) (by omega)
  rw [cutL_val ha, hcut]
  refine .seq ?_
  refine .block ?_
  refine .seq ?_
  refine .region ?_
  refine mvd ?_
  refine ln ?_ (L_sz _) l32
  refine bi ?_
  refine asd ?_
  refine rn ?_
  refine cndf ?_
  refine .seq ?_
  refine .region ?_
  refine mvd ?_
  refine ln ?_ (L_sz _) l32
  refine bi ?_
  refine asd ?_
  refine rn ?_
  refine cndt ?_
  refine .seq ?_
  refine .region ?_
  refine mvd ?_
  refine mvd ?_
  refine ix 0 ?_ rfl (L_at rfl) rfl s32
  refine ldp ?_ a32
  refine cl (xs := [.sl (L (digs (val a))), U d]) ?_ (small_fn oa dla hd0 hd) Try.call47
  rw [va]
  refine mvt ?_
  refine ex ?_
  refine ex ?_
  refine asd ?_
  refine asd ?_
  refine rn ?_
  refine .seq ?_
  refine .region ?_
  refine mvd ?_
  refine mvd ?_
  refine asd ?_
  refine asd ?_
  refine asd ?_
  refine rn ?_
  refine .ret ?_
  exact ⟨by decide, rfl, rfl, rfl, rfl⟩

theorem one_limb {n : Nat} (h0 : 0 < n) (h : n < 4294967296) : digs n = [n] := by
  rw [digs_pos (by omega), Nat.mod_eq_of_lt h, Nat.div_eq_of_lt h, digs_zero]
theorem decT_1000 : decT 1000 = [49, 48, 48, 48] := by
  unfold decT
  simp [decR_pos, decR_zero]
theorem live_fn : Fn Try.prog 17 [] (.d (.b true)) := by
  refine Fn.of (rs := [.tmp 0]) (nt := 39) Try.func17 rfl rfl rfl (by simp) rfl ?_
  refine .seq ?_
  refine .region ?_
  refine asd ?_
  refine rn ?_
  refine .seq ?_
  refine .region ?_
  refine cl (xs := [.i .u64 ((7 : Nat) : Int)]) ?_ (Of_fn (n := 7) (by decide)) Try.call28
  refine cl (xs := [.i .u64 ((2 : Nat) : Int)]) ?_ (Of_fn (n := 2) (by decide)) Try.call28
  rw [one_limb (n := 7) (by decide) (by decide), one_limb (n := 2) (by decide) (by decide)]
  refine cl (xs := [.sl (L [7]), .sl (L [2])]) ?_ (DivMod1_fn (a := [7]) (d := 2) (by simp [Ok]) (by simp) (by decide) (by decide)) Try.call14
  rw [show val [7] / 2 = 3 from rfl, show val [7] % 2 = 1 from rfl, one_limb (n := 3) (by decide) (by decide), one_limb (n := 1) (by decide) (by decide)]
  refine mvt ?_
  refine ex ?_
  refine ex ?_
  refine ex ?_
  refine asd ?_
  refine asd ?_
  refine asd ?_
  refine rn ?_
  refine .gh (Gh.keep [1, 2, 3] rfl) ?_
  refine .seq ?_
  refine .region ?_
  refine mvd ?_
  refine mvd ?_
  refine mvd ?_
  refine ln ?_ (L_sz _) l32
  refine bi ?_
  refine pkd ?_
  refine mvd ?_
  refine mvd ?_
  refine ix 0 ?_ rfl (L_at rfl) rfl s32
  refine ldp ?_ a32
  refine bi ?_
  refine pkd ?_
  refine mvd ?_
  refine mvd ?_
  refine ln ?_ (L_sz _) l32
  refine bi ?_
  refine pkd ?_
  refine mvd ?_
  refine mvd ?_
  refine ix 0 ?_ rfl (L_at rfl) rfl s32
  refine ldp ?_ a32
  refine bi ?_
  refine pkd ?_
  refine mvd ?_
  refine cl (xs := [.i .u64 ((1000 : Nat) : Int)]) ?_ (Of_fn (n := 1000) (by decide)) Try.call28
  rw [one_limb (n := 1000) (by decide) (by decide)]
  refine cl (xs := [.sl (L [1000])]) ?_ (Print_fn (a := [1000]) (by simp [Ok]) (by simp)) Try.call35
  rw [show val [1000] = 1000 from rfl, decT_1000]
  refine seq_ ?_
  refine pkd ?_
  refine asd ?_
  refine rn ?_
  refine .ret ?_
  exact ⟨rfl, rfl⟩
end Go.FL
/-
  nat.Product.
-/
namespace Go.FL
open Go Go.Proofs

def prodN : List Nat → Nat
  | [] => 1
  | x :: r => x * prodN r
/-- The product, times what stood. -/
def prodF (ls : List (List Nat)) (p : Nat) : Nat := ls.foldl (fun q a => q * val a) p
theorem Product_fn {ls : List (List Nat)} (h : ∀ a ∈ ls, Ok a) (hl : ls.length ≤ 1048576) (hla : ∀ a ∈ ls, a.length ≤ 524288) (hs : ∀ k, (digs (prodF (ls.take k) 1)).length ≤ 524288) :
    Fn Try.prog 34 [.sl (LL ls)] (.d (.sl (L (digs (prodF ls 1))))) := by
  refine Fn.of (rs := [.tmp 2]) (nt := 18) Try.func34 rfl rfl rfl (by simp) rfl ?_
  refine .seq ?_
  refine .region ?_
  refine asn ?_
  refine rn ?_
  refine .seq ?_
  refine .region ?_
  refine bsl ?_ ?_ e32
  · simp [DV.flat, DV.cells, DV.leaf]
  refine fz (p := .t 6) ?_
  refine asd ?_
  refine rn ?_
  refine .mid (fun e H' => e = [(3, .d (.sl (L (digs (prodF ls 1)))))] ∧ H' = []) ?_ ?_
  · refine .seq ?_
    refine .region ?_
    refine mvd ?_
    refine ln ?_ (LL_sz _) l2
    refine mvd ?_
    refine rn ?_
    refine .block ?_
    refine .loop (.gh (Gh.keep [3, 7, 8, 9] rfl) ?_)
    refine AL.cast (env' := [(3, .d (.sl (L (digs (prodF (ls.take 0) 1))))), (7, .d (.sl (LL ls))), (8, .d (.i .i64 ((LL ls).length : Nat))), (9, .d (.i .i64 ((0 : Nat) : Int)))]) (by
      have e1 : digs (prodF (ls.take 0) 1) = [1] := by
        rw [List.take_zero]; show digs 1 = [1]; rw [digs]; simp; rw [digs]; simp
      rw [e1]; rfl) ?_
    refine AL.ind (σ := Nat) (m := fun i => ls.length - i) (e := fun i => [(3, .d (.sl (L (digs (prodF (ls.take i) 1))))), (7, .d (.sl (LL ls))), (8, .d (.i .i64 ((LL ls).length : Nat))), (9, .d (.i .i64 (i : Int)))]) (h := fun _ => [])
      (I := fun i => i ≤ ls.length) ?_ 0 (Nat.zero_le _)
    intro i h1 ih
    refine .seq ?_
    refine .region ?_
    refine bi ?_
    refine rn ?_
    refine .seq ?_
    by_cases hi : i < ls.length
    · rw [decide_eq_true (show (i:Int) < ((LL ls).length : Nat) by rw [LL_length]; omega)]
      have hy : ls[i]? = some ls[i] := List.getElem?_eq_getElem hi
      have htk : ls.take (i + 1) = ls.take i ++ [ls[i]] := List.take_succ_eq_append_getElem hi
      generalize ls[i] = y at hy htk
      have hyo := h y (List.mem_of_getElem? hy)
      have hyl := hla y (List.mem_of_getElem? hy)
      have hst : prodF (ls.take (i + 1)) 1 = prodF (ls.take i) 1 * val y := by rw [htk, prodF, prodF, List.foldl_append]; rfl
      refine cndt ?_
      refine .skip ?_
      show AW _ _ _ _ _ _
      refine .seq ?_
      refine .block ?_
      refine .seq ?_
      refine .region ?_
      refine ix i ?_ rfl (LL_at hy) rfl s2
      refine ldp ?_ a2
      refine asd ?_
      refine rn ?_
      refine .region ?_
      refine mvd ?_
      refine mvd ?_
      refine cl (xs := [.sl (L (digs (prodF (ls.take i) 1))), .sl (L y)]) ?_ (prod_fn (digs_ok _) hyo (hs i) hyl) Try.call59
      refine asd ?_
      refine .nil ?_
      show AW _ _ _ _ _ _
      refine .region ?_
      refine ad ((i + 1 : Nat) : Int) ?_ ?_
      · omega
      refine mvd ?_
      refine .nil ?_
      refine AL.gh (Gh.keep [3, 7, 8, 9] rfl) ?_
      rw [val_digs, ← hst]
      exact ih (i + 1) (by show i + 1 ≤ ls.length; omega) (by show ls.length - (i + 1) < ls.length - i; omega)
    · rw [decide_eq_false (show ¬ (i:Int) < ((LL ls).length : Nat) by rw [LL_length]; omega)]
      rw [List.take_of_length_le (by omega)]
      refine cndf ?_
      refine .gh (Gh.keep [3] rfl) ?_
      refine .exit ?_
      exact ⟨rfl, rfl⟩
  · rintro _ _ ⟨rfl, rfl⟩
    refine .seq ?_
    refine .region ?_
    refine mvd ?_
    refine asd ?_
    refine rn ?_
    refine .ret ?_
    exact ⟨rfl, rfl⟩
end Go.FL
/-
  What laws need: arguments as limbs; how many limbs sums and products have.
-/
namespace Go.FL
open Go Go.Proofs

theorem e2 : elemT Try.prog 30 = some (22, 1, 24, .slice none 0 0) := by kernel_rfl
theorem addAll_fit {N : Nat} : ∀ (ys xs : List Nat) (i : Nat), Ok xs → xs.length ≤ N → val xs + val ys * 4294967296 ^ i < 4294967296 ^ N → (addAll xs ys i).length ≤ N
  | [], xs, i, h, hN, _ => hN
  | y :: ys, xs, i, h, hN, hv => by
    obtain ⟨a1, a2⟩ := addL_val xs y i h
    have e1 := (addAll_val (y :: ys) xs i h).1
    have e2 := (addAll_val ys _ (i + 1) a2).1
    have hv2 : val (addL xs y i) + val ys * 4294967296 ^ (i + 1) < 4294967296 ^ N := by
      rw [← e2]; rw [← e1] at hv; exact hv
    exact addAll_fit ys _ (i + 1) a2 (addL_fit xs y i h hN (by omega)) hv2
theorem sumAll_fit {N : Nat} : ∀ (ls : List (List Nat)) (xs : List Nat), Ok xs → xs.length ≤ N → val xs + (ls.map val).sum < 4294967296 ^ N → (sumAll ls xs).length ≤ N
  | [], xs, h, hN, _ => hN
  | a :: r, xs, h, hN, hv => by
    obtain ⟨a1, a2⟩ := addAll_val a xs 0 h
    have hv2 : val (addAll xs a 0) + (r.map val).sum < 4294967296 ^ N := by
      rw [a1]; simp at hv ⊢; omega
    exact sumAll_fit r _ a2 (addAll_fit a xs 0 h hN (by omega)) hv2
theorem pow_split (M : Nat) : 4294967296 ^ (M + 1) = 4294967296 ^ M * 4294967296 := Nat.pow_succ ..
theorem sum_lt {M : Nat} : ∀ {ls : List (List Nat)}, (∀ a ∈ ls, val a < 4294967296 ^ M) → (ls.map val).sum ≤ ls.length * 4294967296 ^ M
  | [], _ => by simp
  | a :: r, h => by
    have h1 := h a (by simp)
    have h2 := sum_lt (ls := r) fun b hb => h b (by simp [hb])
    simp only [List.map_cons, List.sum_cons, List.length_cons, Nat.add_mul, Nat.one_mul]
    omega
/-- Sums of numbers of at most M limbs. -/
theorem sum_fn {M : Nat} {ls : List (List Nat)} (h : ∀ a ∈ ls, Ok a) (hM : ∀ a ∈ ls, a.length ≤ M) (hl : ls.length ≤ 1000) (hM2 : M ≤ 100000) : Fn Try.prog 41 [.sl (LL ls)] (.d (.sl (L (digs (ls.map val).sum)))) := by
  have hv : ∀ a ∈ ls, val a < 4294967296 ^ M := fun a ha => Nat.lt_of_lt_of_le (val_lt (h a ha)) (Nat.pow_le_pow_right (by decide) (hM a ha))
  refine Sum_fn h (by omega) (fun a ha => Nat.le_trans (hM a ha) (by omega)) ?_
  have h1 := sum_lt hv
  have h2 : ls.length * 4294967296 ^ M < 4294967296 ^ (M + 1) := by
    rw [pow_split, Nat.mul_comm]
    exact Nat.mul_lt_mul_of_pos_left (by omega) (Nat.pow_pos (by decide))
  have := sumAll_fit (N := M + 1) ls [] .nil (Nat.zero_le _) (by simp only [val, Nat.zero_add]; omega)
  omega
theorem prodF_lt {M : Nat} : ∀ (ls : List (List Nat)) (p j : Nat), (∀ a ∈ ls, val a < 4294967296 ^ M) → p < 4294967296 ^ j → prodF ls p < 4294967296 ^ (j + M * ls.length)
  | [], p, j, _, hp => by simpa [prodF] using hp
  | a :: r, p, j, h, hp => by
    have h1 : p * val a < 4294967296 ^ (j + M) := by rw [Nat.pow_add]; exact Nat.mul_lt_mul'' hp (h a (by simp))
    have := prodF_lt r (p * val a) (j + M) (fun b hb => h b (by simp [hb])) h1
    rw [show j + M * (a :: r).length = j + M + M * r.length by simp [Nat.mul_add]; omega]
    exact this
theorem prods_fn {M : Nat} {ls : List (List Nat)} (h : ∀ a ∈ ls, Ok a) (hM : ∀ a ∈ ls, a.length ≤ M) (hl : ls.length ≤ 10) (hM2 : M ≤ 40000) : Fn Try.prog 34 [.sl (LL ls)] (.d (.sl (L (digs (prodF ls 1))))) := by
  have hv : ∀ a ∈ ls, val a < 4294967296 ^ M := fun a ha => Nat.lt_of_lt_of_le (val_lt (h a ha)) (Nat.pow_le_pow_right (by decide) (hM a ha))
  refine Product_fn h (by omega) (fun a ha => Nat.le_trans (hM a ha) (by omega)) fun k => ?_
  have h1 := prodF_lt (ls.take k) 1 1 (fun a ha => hv a (List.mem_of_mem_take ha)) (by decide)
  have h2 := digs_len h1
  have h3 : M * (ls.take k).length ≤ 40000 * 10 := Nat.mul_le_mul hM2 (by rw [List.length_take]; omega)
  omega
theorem cmp_self (n : Nat) : cmpN n n = 0 := by simp [cmpN]
/-- Arguments, as limbs. -/
theorem as_limbs : ∀ zs : List Int, (∀ z ∈ zs, (Lit.int .u32 z).wf = true) → ∃ a : List Nat, Ok a ∧ zs.map (DV.i .u32) = L a
  | [], _ => ⟨[], .nil, rfl⟩
  | z :: zs, h => by
    obtain ⟨a, h1, h2⟩ := as_limbs zs fun y hy => h y (by simp [hy])
    have hz := h z (by simp)
    have hz2 : 0 ≤ z ∧ z ≤ 4294967295 := by simpa [Lit.wf, IntKind.min, IntKind.max, IntKind.signed, IntKind.bits] using hz
    refine ⟨z.toNat :: a, h1.cons (by omega), ?_⟩
    rw [List.map_cons, h2]
    show _ = U z.toNat :: L a
    rw [U, Int.toNat_of_nonneg hz2.1]
end Go.FL
/-
  glyphref01: Add, Compare, Minus.
-/
namespace Go.FL
open Go Go.Proofs

theorem add_step {V P x y c A A' B B' s q r : Nat} (hs : s = x + y + c) (hq : s = 4294967296 * q + r) (hA : A = x + 4294967296 * A') (hB : B = y + 4294967296 * B') : (V + P * r) + (A' + B' + q) * (P * 4294967296) = V + (A + B + c) * P := by
  grind
theorem val_snoc (xs : List Nat) (y : Nat) : val (xs ++ [y]) = val xs + 4294967296 ^ xs.length * y := by rw [val_append]; simp [val]
theorem Ok.snoc {xs : List Nat} {y : Nat} (h : Ok xs) (hy : y < 4294967296) : Ok (xs ++ [y]) := h.append (by intro x hx; simp at hx; subst hx; exact hy)
theorem L_snoc (xs : List Nat) (y : Nat) : (L xs).take (L xs).length ++ [DV.i .u32 (y : Int)] = L (xs ++ [y]) := by rw [List.take_length, L_append]; rfl

theorem Add_fn {a b : List Nat} (ha : Ok a) (hb : Ok b) (hla : a.length ≤ 500000) (hlb : b.length ≤ 500000) : Fn Try.prog 61 [.sl (L a), .sl (L b)] (.own 49 (L (digs (val a + val b)))) := by
  refine Fn.of (rs := [.tmp 4]) (nt := 43) Try.func61 rfl rfl rfl (by simp) rfl ?_
  refine .seq ?_
  refine .region ?_
  refine asn ?_
  refine rn ?_
  refine .seq ?_
  refine .region ?_
  refine asn ?_
  refine rn ?_
  refine .seq ?_
  refine .region ?_
  refine asd ?_
  refine rn ?_
  refine .mid (fun e H' => ∃ out, e = [(5, .own 49 (L out))] ∧ H' = [] ∧ Ok out ∧ out.length ≤ a.length + b.length + 1 ∧ val out = val a + val b) ?_ ?_
  · refine .seq ?_
    refine .region ?_
    refine asd ?_
    refine rn ?_
    refine .block ?_
    refine .gh (Gh.nlOwn (t := 5) 49 z32p rfl) ?_
    refine .loop (.gh (Gh.keep [0, 1, 5, 6, 7] rfl) ?_)
    refine AL.ind (σ := List Nat × Nat) (m := fun s => (a.length + b.length - s.1.length) * 2 + s.2) (e := fun s => [(0, .d (.sl (L a))), (1, .d (.sl (L b))), (5, .own 49 (L s.1)), (6, .d (.i .u64 (s.2 : Int))), (7, .d (.i .i64 (s.1.length : Int)))]) (h := fun _ => [])
      (I := fun s => Ok s.1 ∧ s.2 ≤ 1 ∧ s.1.length + s.2 ≤ a.length + b.length + 1 ∧ val s.1 + (val (a.drop s.1.length) + val (b.drop s.1.length) + s.2) * 4294967296 ^ s.1.length = val a + val b) ?_ ([], 0) ⟨.nil, by simp, by simp, by simp [val]⟩
    rintro ⟨out, c⟩ ⟨h1, h2, h3, h4⟩ ih
    dsimp only at h1 h2 h3 h4 ih ⊢
    refine .mid (fun e H' => H' = [] ∧ (out.length < a.length ∨ out.length < b.length ∨ c = 1) ∧ e = [(0, .d (.sl (L a))), (1, .d (.sl (L b))), (5, .own 49 (L out)), (6, .d (.i .u64 (c : Int))), (7, .d (.i .i64 (out.length : Int)))]) ?_ ?_
    · refine .seq ?_
      refine .region ?_
      refine mvd ?_
      refine mvd ?_
      refine ln ?_ (L_sz _) l32
      refine bi ?_
      refine mvd ?_
      by_cases hA : out.length < a.length
      · rw [decide_eq_true (show (out.length : Int) < ((L a).length : Nat) by rw [L_length]; omega)]
        refine gf ?_
        refine gf ?_
        refine gf ?_
        refine gf ?_
        refine pkd ?_
        refine mvd ?_
        refine gf ?_
        refine gf ?_
        refine pkd ?_
        refine rn ?_
        refine cndt ?_
        refine .gh (Gh.keep [0, 1, 5, 6, 7] rfl) ?_
        refine .skip ?_
        exact ⟨rfl, .inl hA, rfl⟩
      · rw [decide_eq_false (show ¬ (out.length : Int) < ((L a).length : Nat) by rw [L_length]; omega)]
        refine mvd ?_
        refine mvd ?_
        refine ln ?_ (L_sz _) l32
        refine bi ?_
        refine pkd ?_
        refine mvd ?_
        by_cases hB : out.length < b.length
        · rw [decide_eq_true (show (out.length : Int) < ((L b).length : Nat) by rw [L_length]; omega)]
          refine gf ?_
          refine gf ?_
          refine pkd ?_
          refine rn ?_
          refine cndt ?_
          refine .gh (Gh.keep [0, 1, 5, 6, 7] rfl) ?_
          refine .skip ?_
          exact ⟨rfl, .inr (.inl hB), rfl⟩
        · rw [decide_eq_false (show ¬ (out.length : Int) < ((L b).length : Nat) by rw [L_length]; omega)]
          refine mvd ?_
          refine bi ?_
          refine pkd ?_
          refine rn ?_
          by_cases hc : c = 0
          · subst hc
            refine cndf ?_
            refine .gh (Gh.keep [5] rfl) ?_
            refine .exit ?_
            refine ⟨out, rfl, rfl, h1, by omega, ?_⟩
            rw [List.drop_eq_nil_of_le (by omega), List.drop_eq_nil_of_le (by omega)] at h4
            simpa [val] using h4
          · rw [decide_eq_true (show (0 : Int) < (c : Int) by omega)]
            refine cndt ?_
            refine .gh (Gh.keep [0, 1, 5, 6, 7] rfl) ?_
            refine .skip ?_
            exact ⟨rfl, .inr (.inr (by omega)), rfl⟩
    rintro _ _ ⟨rfl, hgo, rfl⟩
    have hxl := getD_lt ha out.length
    have hyl := getD_lt hb out.length
    have hdx := drop_val (b := a) out.length
    have hdy := drop_val (b := b) out.length
    have f1 := limb_fn (a := a) ha (i := out.length) (by omega)
    have f2 := limb_fn (a := b) hb (i := out.length) (by omega)
    have hz : ¬ out.length < a.length → ¬ out.length < b.length → a.getD out.length 0 = 0 ∧ b.getD out.length 0 = 0 := fun h5 h6 => by
      rw [List.getD_eq_getElem?_getD, List.getD_eq_getElem?_getD, List.getElem?_eq_none (by omega), List.getElem?_eq_none (by omega)]; simp
    generalize a.getD out.length 0 = x at *
    generalize b.getD out.length 0 = y at *
    have hstep := add_step (V := val out) (P := 4294967296 ^ out.length) (x := x) (y := y) (c := c) (s := x + y + c) (q := (x + y + c) / 4294967296) (r := (x + y + c) % 4294967296) rfl (Nat.div_add_mod _ _).symm hdx hdy
    refine .seq ?_
    refine .block ?_
    refine .seq ?_
    refine .region ?_
    refine mvd ?_
    refine mvd ?_
    refine cl (xs := [.sl (L a), .i .i64 (out.length : Int)]) ?_ f1 Try.call65
    refine mvd ?_
    refine mvd ?_
    refine cl (xs := [.sl (L b), .i .i64 (out.length : Int)]) ?_ f2 Try.call65
    refine bie (.i .u64 ((x + y : Nat) : Int)) ?_ ?_
    · exact ⟨trivial, by rw [← Int.natCast_add, toU64 (by omega)]⟩
    refine mvd ?_
    refine bie (.i .u64 ((x + y + c : Nat) : Int)) ?_ ?_
    · exact ⟨trivial, by rw [← Int.natCast_add, toU64 (by omega)]⟩
    refine asd ?_
    refine rn ?_
    have hs2 : x + y + c < 8589934592 := by omega
    have hcz : ¬ out.length < a.length → ¬ out.length < b.length → (x + y + c) / 4294967296 = 0 := fun h5 h6 => by
      obtain ⟨e1, e2⟩ := hz h5 h6
      omega
    generalize x + y + c = s at *
    refine .seq ?_
    refine .region ?_
    refine mvo ?_
    refine mvd ?_
    refine cve ((s % 4294967296 : Nat) : Int) (wrapU32 _) ?_ u64 u32
    refine bsl ?_ ?_ e32
    · simp [DV.flat, DV.cells, DV.leaf]
    refine apr ?_ ?_ (L_sz1 [s % 4294967296]) e32
    · simp [L_length]; omega
    refine aso ?_
    refine rn ?_
    refine .region ?_
    refine mvd ?_
    refine bie (.i .u64 ((s / 4294967296 : Nat) : Int)) ?_ ?_
    · simp [IntKind.bits]
    refine asd ?_
    refine .nil ?_
    show AW _ _ _ _ _ _
    refine .region ?_
    refine mvd ?_
    refine ad ((out.length + 1 : Nat) : Int) ?_ ?_
    · omega
    refine asd ?_
    refine rn ?_
    refine .gh (Gh.keep [0, 1, 5, 6, 7] rfl) ?_
    have := ih (out ++ [s % 4294967296], s / 4294967296) ⟨h1.snoc (Nat.mod_lt _ (by decide)), by dsimp only; omega, ?_, ?_⟩ ?_
    · rw [← L_snoc] at this
      dsimp only at this
      rw [List.length_append] at this
      exact this
    · dsimp only
      rw [List.length_append, List.length_singleton]
      by_cases h5 : out.length < a.length ∨ out.length < b.length
      · omega
      · have := hcz (fun h => h5 (.inl h)) (fun h => h5 (.inr h)); omega
    · dsimp only
      rw [val_snoc, List.length_append, List.length_singleton, Nat.pow_succ, hstep, h4]
    · dsimp only
      rw [List.length_append, List.length_singleton]
      by_cases h5 : out.length < a.length ∨ out.length < b.length
      · omega
      · have := hcz (fun h => h5 (.inl h)) (fun h => h5 (.inr h)); omega
  rintro _ _ ⟨out, rfl, rfl, h1, h2, h3⟩
  refine .seq ?_
  refine .region ?_
  refine fz (p := .t 5) ?_
  refine mvd ?_
  refine cl (xs := [.sl (L out)]) ?_ (refTrim_fn h1 (by omega)) Try.call27
  rw [h3]
  refine aso ?_
  refine rn ?_
  refine .ret ?_
  exact ⟨rfl, rfl⟩
end Go.FL
/-
  glyphref01: Compare, Minus.
-/
namespace Go.FL
open Go Go.Proofs

theorem refCompare_fn {a b : List Nat} (ha : Ok a) (hb : Ok b) (hla : a.length ≤ 35184372087808) (hlb : b.length ≤ 35184372087808) : Fn Try.prog 31 [.sl (L a), .sl (L b)] (.d (.i .i64 (cmpN (val a) (val b)))) := by
  have dla := Nat.le_trans (digs_len_le ha) hla
  have dlb := Nat.le_trans (digs_len_le hb) hlb
  have va := val_digs (val a)
  have vb := val_digs (val b)
  have oa := digs_ok (val a)
  have ob := digs_ok (val b)
  have lt1 := @digs_lt (val a) (val b)
  have lt2 := @digs_lt (val b) (val a)
  refine Fn.of (rs := [.tmp 4]) (nt := 47) Try.func31 rfl rfl rfl (by simp) rfl ?_
  refine .seq ?_
  refine .region ?_
  refine asd ?_
  refine rn ?_
  refine .seq ?_
  refine .region ?_
  refine mvd ?_
  refine cl (xs := [.sl (L a)]) ?_ (refTrim_fn ha (by omega)) Try.call27
  refine mvd ?_
  refine cl (xs := [.sl (L b)]) ?_ (refTrim_fn hb (by omega)) Try.call27
  refine aso ?_
  refine aso ?_
  refine rn ?_
  refine .gh (Gh.frz (p := .t 5) rfl (fun _ _ h => by cases h)) ?_
  refine .gh (Gh.frz (p := .t 6) rfl (fun _ _ h => by cases h)) ?_
  refine .gh (Gh.keep [5, 6] rfl) ?_
  generalize digs (val a) = xs at *
  generalize digs (val b) = ys at *
  refine .seq ?_
  refine .seq ?_
  refine .region ?_
  refine mvd ?_
  refine ln ?_ (L_sz _) l32
  refine mvd ?_
  refine ln ?_ (L_sz _) l32
  refine bi ?_
  refine rn ?_
  by_cases hlen : xs.length = ys.length
  · have e1 : (!decide (((L xs).length : Int) = ((L ys).length : Int))) = false := by simp [L_length]; omega
    rw [e1]
    refine cndf ?_
    refine .skip ?_
    show AW _ _ _ _ _ _
    refine .seq ?_
    refine .seq ?_
    refine .region ?_
    refine mvd ?_
    refine ln ?_ (L_sz _) l32
    refine su ((xs.length : Int) - 1) ?_ ?_
    · rw [L_length]; omega
    refine asd ?_
    refine rn ?_
    refine .block ?_
    refine .loop (.gh (Gh.keep [5, 6, 7] rfl) ?_)
    refine AL.ind (σ := Nat) (m := fun i => i) (e := fun i => [(5, .d (.sl (L xs))), (6, .d (.sl (L ys))), (7, .d (.i .i64 ((i : Int) - 1)))]) (h := fun _ => [])
      (I := fun i => i ≤ xs.length ∧ xs.drop i = ys.drop i) ?_ xs.length ⟨Nat.le_refl _, by rw [List.drop_of_length_le (Nat.le_refl _), List.drop_of_length_le (by omega)]⟩
    rintro i ⟨h1, h2⟩ ih
    refine .seq ?_
    refine .seq ?_
    refine .region ?_
    refine mvd ?_
    refine bi ?_
    refine rn ?_
    cases i with
    | zero =>
      rw [decide_eq_false (show ¬ (0 : Int) ≤ ((0 : Nat) : Int) - 1 by omega)]
      refine cndf ?_
      refine .exit ?_
      show AW _ _ _ _ _ _
      refine .seq ?_
      refine .region ?_
      refine asd ?_
      refine rn ?_
      refine .ret ?_
      simp only [List.drop_zero] at h2
      subst h2
      exact ⟨by rw [← va, ← vb]; unfold cmpN; rw [if_neg (by omega), if_pos rfl]; rfl, rfl⟩
    | succ i =>
      have hx : xs[i]? = some xs[i] := List.getElem?_eq_getElem (by omega)
      have hy : ys[i]? = some ys[i] := List.getElem?_eq_getElem (by omega)
      have hdx : xs.drop i = xs[i] :: xs.drop (i + 1) := List.drop_eq_getElem_cons (by omega)
      have hdy : ys.drop i = ys[i] :: ys.drop (i + 1) := List.drop_eq_getElem_cons (by omega)
      generalize xs[i] = x at hx hdx
      generalize ys[i] = y at hy hdy
      rw [decide_eq_true (show (0 : Int) ≤ ((i + 1 : Nat) : Int) - 1 by omega)]
      refine cndt ?_
      refine .skip ?_
      show AW _ _ _ _ _ _
      refine .gh (Gh.keep [5, 6, 7] rfl) ?_
      refine .seq ?_
      refine .block ?_
      refine .seq ?_
      refine .seq ?_
      refine .drawn 9 mixed (by kernel_rfl) ?_
      refine dv vmvd ?_
      refine dv vmvd ?_
      refine dv (vix (z := ((i + 1 : Nat) : Int) - 1) i (by omega) (L_at hx) rfl s32) ?_
      refine dv (vldp a32) ?_
      refine dv vmvd ?_
      refine dv vmvd ?_
      refine dv (vix (z := ((i + 1 : Nat) : Int) - 1) i (by omega) (L_at hy) rfl s32) ?_
      refine dv (vldp a32) ?_
      refine dv vbi ?_
      refine dz ?_
      refine rn ?_
      by_cases hlt : x < y
      · rw [decide_eq_true (show (x : Int) < (y : Int) by omega)]
        refine cndt ?_
        refine .seq ?_
        refine .region ?_
        refine asd ?_
        refine rn ?_
        refine .ret ?_
        have := cmp_at oa ob h2 hx hy hlt
        exact ⟨by unfold cmpN; rw [if_pos (by omega)]; rfl, rfl⟩
      · rw [decide_eq_false (show ¬ (x : Int) < (y : Int) by omega)]
        refine cndf ?_
        refine .skip ?_
        show AW _ _ _ _ _ _
        refine .gh (Gh.keep [5, 6, 7] rfl) ?_
        refine .seq ?_
        refine .drawn 9 mixed (by kernel_rfl) ?_
        refine dv vmvd ?_
        refine dv vmvd ?_
        refine dv (vix (z := ((i + 1 : Nat) : Int) - 1) i (by omega) (L_at hx) rfl s32) ?_
        refine dv (vldp a32) ?_
        refine dv vmvd ?_
        refine dv vmvd ?_
        refine dv (vix (z := ((i + 1 : Nat) : Int) - 1) i (by omega) (L_at hy) rfl s32) ?_
        refine dv (vldp a32) ?_
        refine dv vbi ?_
        refine dz ?_
        refine rn ?_
        by_cases hgt : y < x
        · rw [decide_eq_true (show (y : Int) < (x : Int) by omega)]
          refine cndt ?_
          refine .seq ?_
          refine .region ?_
          refine asd ?_
          refine rn ?_
          refine .ret ?_
          have := cmp_at ob oa h2.symm hy hx hgt
          exact ⟨by unfold cmpN; rw [if_neg (by omega), if_neg (by omega)]; rfl, rfl⟩
        · have hxy : x = y := by omega
          subst hxy
          rw [decide_eq_false (show ¬ (x : Int) < (x : Int) by omega)]
          refine cndf ?_
          refine .skip ?_
          show AW _ _ _ _ _ _
          refine .gh (Gh.keep [5, 6, 7] rfl) ?_
          refine .region ?_
          refine mvd ?_
          refine su ((i : Int) - 1) ?_ ?_
          · omega
          refine asd ?_
          refine rn ?_
          refine .gh (Gh.keep [5, 6, 7] rfl) ?_
          exact ih i ⟨by omega, by rw [hdx, hdy, h2]⟩ (by omega)
  · have e1 : (!decide (((L xs).length : Int) = ((L ys).length : Int))) = true := by simp [L_length]; omega
    rw [e1]
    refine cndt ?_
    refine .seq ?_
    refine .seq ?_
    refine .region ?_
    refine mvd ?_
    refine ln ?_ (L_sz _) l32
    refine mvd ?_
    refine ln ?_ (L_sz _) l32
    refine bi ?_
    refine rn ?_
    by_cases hl : xs.length < ys.length
    · have h1 := lt1 hl
      rw [decide_eq_true (show (((L xs).length : Nat) : Int) < ((L ys).length : Nat) by rw [L_length, L_length]; omega)]
      refine cndt ?_
      refine .seq ?_
      refine .region ?_
      refine asd ?_
      refine rn ?_
      refine .ret ?_
      exact ⟨by unfold cmpN; rw [if_pos (by omega)]; rfl, rfl⟩
    · have h1 := lt2 (by omega)
      rw [decide_eq_false (show ¬ (((L xs).length : Nat) : Int) < ((L ys).length : Nat) by rw [L_length, L_length]; omega)]
      refine cndf ?_
      refine .skip ?_
      show AW _ _ _ _ _ _
      refine .seq ?_
      refine .region ?_
      refine asd ?_
      refine rn ?_
      refine .ret ?_
      exact ⟨by unfold cmpN; rw [if_neg (by omega), if_neg (by omega)]; rfl, rfl⟩

theorem sub_step {O P x y c A A' B B' q r : Nat} (hq : x + 4294967296 * q = y + c + r) (hA : A = x + 4294967296 * A') (hB : B = y + 4294967296 * B') {T U : Nat} (h : T + (B + c) * P = U + O + A * P) : T + (B' + q) * (P * 4294967296) = U + (O + P * r) + A' * (P * 4294967296) := by
  grind
/-- What is taken away; nothing, if it would be below nought. -/
def minN (m n : Nat) : Nat := if n ≤ m then m - n else 0
theorem refMinus_fn {a b : List Nat} (ha : Ok a) (hb : Ok b) (hla : a.length ≤ 500000) (hlb : b.length ≤ 500000) : Fn Try.prog 43 [.sl (L a), .sl (L b)] (.tup [.d (.sl (L (digs (minN (val a) (val b))))), .d (.b (decide (val b ≤ val a)))]) := by
  refine Fn.of (rs := [.tmp 4, .tmp 5]) (nt := 43) Try.func43 rfl rfl rfl (by simp) rfl ?_
  refine .seq ?_
  refine .region ?_
  refine asn ?_
  refine asd ?_
  refine rn ?_
  refine .seq ?_
  refine .seq ?_
  refine .region ?_
  refine mvd ?_
  refine mvd ?_
  refine cl (xs := [.sl (L a), .sl (L b)]) ?_ (refCompare_fn ha hb (by omega) (by omega)) Try.call31
  refine bi ?_
  refine rn ?_
  by_cases hlt : val a < val b
  · rw [decide_eq_true (show cmpN (val a) (val b) < 0 by unfold cmpN; rw [if_pos hlt]; decide)]
    refine cndt ?_
    refine .seq ?_
    refine .region ?_
    refine asn ?_
    refine asd ?_
    refine rn ?_
    refine .gh (Gh.nlD (t := 4) rfl) ?_
    refine .ret ?_
    exact ⟨by decide, by rw [decide_eq_false (show ¬ val b ≤ val a by omega), minN, if_neg (by omega), digs_zero]; rfl, rfl, rfl⟩
  · have hle : val b ≤ val a := by omega
    rw [decide_eq_false (show ¬ cmpN (val a) (val b) < 0 by unfold cmpN; rw [if_neg hlt]; split <;> decide)]
    refine cndf ?_
    refine .skip ?_
    show AW _ _ _ _ _ _
    refine .seq ?_
    refine .region ?_
    refine asn ?_
    refine rn ?_
    refine .seq ?_
    refine .region ?_
    refine asd ?_
    refine rn ?_
    refine .mid (fun e H' => ∃ out, e = [(6, .own 49 (L out))] ∧ H' = [] ∧ Ok out ∧ out.length = a.length ∧ val out = val a - val b) ?_ ?_
    · refine .seq ?_
      refine .region ?_
      refine asd ?_
      refine rn ?_
      refine .block ?_
      refine .gh (Gh.nlOwn (t := 6) 49 z32p rfl) ?_
      refine .loop (.gh (Gh.keep [0, 1, 6, 7, 8] rfl) ?_)
      refine AL.ind (σ := List Nat × Nat) (m := fun s => a.length - s.1.length) (e := fun s => [(0, .d (.sl (L a))), (1, .d (.sl (L b))), (6, .own 49 (L s.1)), (7, .d (.i .u64 (s.2 : Int))), (8, .d (.i .i64 (s.1.length : Int)))]) (h := fun _ => [])
        (I := fun s => Ok s.1 ∧ s.2 ≤ 1 ∧ s.1.length ≤ a.length ∧ val a + (val (b.drop s.1.length) + s.2) * 4294967296 ^ s.1.length = val b + val s.1 + val (a.drop s.1.length) * 4294967296 ^ s.1.length) ?_ ([], 0) ⟨.nil, by simp, by simp, by simp [val]; omega⟩
      rintro ⟨out, c⟩ ⟨h1, h2, h3, h4⟩ ih
      dsimp only at h1 h2 h3 h4 ih ⊢
      refine .seq ?_
      refine .seq ?_
      refine .region ?_
      refine mvd ?_
      refine mvd ?_
      refine ln ?_ (L_sz _) l32
      refine bi ?_
      refine rn ?_
      by_cases hA : out.length < a.length
      · rw [decide_eq_true (show (out.length : Int) < ((L a).length : Nat) by rw [L_length]; omega)]
        refine cndt ?_
        refine .skip ?_
        show AW _ _ _ _ _ _
        have hxl := getD_lt ha out.length
        have hyl := getD_lt hb out.length
        have hdx := drop_val (b := a) out.length
        have hdy := drop_val (b := b) out.length
        have f1 := limb_fn (a := a) ha (i := out.length) (by omega)
        have f2 := limb_fn (a := b) hb (i := out.length) (by omega)
        generalize a.getD out.length 0 = x at *
        generalize b.getD out.length 0 = y at *
        refine .seq ?_
        refine .block ?_
        refine .seq ?_
        refine .region ?_
        refine mvd ?_
        refine mvd ?_
        refine cl (xs := [.sl (L a), .i .i64 (out.length : Int)]) ?_ f1 Try.call65
        refine mvd ?_
        refine mvd ?_
        refine cl (xs := [.sl (L b), .i .i64 (out.length : Int)]) ?_ f2 Try.call65
        refine mvd ?_
        refine bie (.i .u64 ((y + c : Nat) : Int)) ?_ ?_
        · exact ⟨trivial, by rw [← Int.natCast_add, toU64 (by omega)]⟩
        refine asd ?_
        refine asd ?_
        refine rn ?_
        refine .seq ?_
        refine .region ?_
        refine asd ?_
        refine rn ?_
        refine .mid (fun e H' => H' = [] ∧ ∃ q r, x + 4294967296 * q = y + c + r ∧ r < 4294967296 ∧ q ≤ 1 ∧ e = [(0, .d (.sl (L a))), (1, .d (.sl (L b))), (6, .own 49 (L out)), (7, .d (.i .u64 (q : Int))), (8, .d (.i .i64 (out.length : Int))), (9, .d (.i .u64 ((x + 4294967296 * q : Nat) : Int))), (10, .d (.i .u64 ((y + c : Nat) : Int)))]) ?_ ?_
        · refine .seq ?_
          refine .region ?_
          refine mvd ?_
          refine mvd ?_
          refine bi ?_
          refine rn ?_
          by_cases hxy : x < y + c
          · rw [decide_eq_true (show (x : Int) < ((y + c : Nat) : Int) by omega)]
            refine cndt ?_
            refine .seq ?_
            refine .region ?_
            refine mvd ?_
            refine bie (.i .u64 ((x + 4294967296 : Nat) : Int)) ?_ ?_
            · refine ⟨trivial, ?_⟩
              rw [← toU64 (show x + 4294967296 < 18446744073709551616 by omega)]; rfl
            refine asd ?_
            refine rn ?_
            refine .region ?_
            refine asd ?_
            refine RL.gh (Gh.keep [0, 1, 6, 7, 8, 9, 10] rfl) ?_
            refine .nil ?_
            exact ⟨rfl, 1, x + 4294967296 - (y + c), by omega, by omega, by omega, rfl⟩
          · rw [decide_eq_false (show ¬ (x : Int) < ((y + c : Nat) : Int) by omega)]
            refine cndf ?_
            refine .gh (Gh.keep [0, 1, 6, 7, 8, 9, 10] rfl) ?_
            refine .skip ?_
            exact ⟨rfl, 0, x - (y + c), by omega, by omega, by omega, rfl⟩
        rintro _ _ ⟨rfl, q, r, w1, w2, w3, rfl⟩
        have hstep := sub_step w1 hdx hdy h4
        refine .region ?_
        refine mvo ?_
        refine mvd ?_
        refine mvd ?_
        refine bie (.i .u64 (r : Int)) ?_ ?_
        · refine ⟨trivial, ?_⟩
          rw [show ((x + 4294967296 * q : Nat) : Int) - ((y + c : Nat) : Int) = (r : Int) by omega, toU64 (by omega)]
        refine cve (r : Int) (toU32 w2) ?_ u64 u32
        refine bsl ?_ ?_ e32
        · simp [DV.flat, DV.cells, DV.leaf]
        refine apr ?_ ?_ (L_sz1 [r]) e32
        · simp [L_length]; omega
        refine aso ?_
        refine .nil ?_
        show AW _ _ _ _ _ _
        refine .region ?_
        refine mvd ?_
        refine ad ((out.length + 1 : Nat) : Int) ?_ ?_
        · omega
        refine asd ?_
        refine rn ?_
        refine .gh (Gh.keep [0, 1, 6, 7, 8] rfl) ?_
        have := ih (out ++ [r], q) ⟨h1.snoc w2, w3, by simp; omega, ?_⟩ (by simp; omega)
        · rw [← L_snoc] at this
          dsimp only at this
          rw [List.length_append] at this
          exact this
        · dsimp only
          rw [val_snoc, List.length_append, List.length_singleton, Nat.pow_succ]
          exact hstep
      · rw [decide_eq_false (show ¬ (out.length : Int) < ((L a).length : Nat) by rw [L_length]; omega)]
        refine cndf ?_
        refine .gh (Gh.keep [6] rfl) ?_
        refine .exit ?_
        have hlen : out.length = a.length := by omega
        refine ⟨out, rfl, rfl, h1, hlen, ?_⟩
        rw [List.drop_eq_nil_of_le (show a.length ≤ out.length by omega), hlen] at h4
        simp only [val, Nat.zero_mul, Nat.add_zero] at h4
        have hvo := val_lt h1
        rw [hlen] at hvo
        have hz : val (b.drop a.length) + c = 0 := by
          apply Classical.byContradiction
          intro hne
          have : 1 * 4294967296 ^ a.length ≤ (val (b.drop a.length) + c) * 4294967296 ^ a.length := Nat.mul_le_mul_right _ (by omega)
          omega
        rw [hz] at h4
        omega
    rintro _ _ ⟨out, rfl, rfl, h1, h2, h3⟩
    refine .seq ?_
    refine .region ?_
    refine fz (p := .t 6) ?_
    refine mvd ?_
    refine cl (xs := [.sl (L out)]) ?_ (refTrim_fn h1 (by omega)) Try.call27
    rw [h3]
    refine aso ?_
    refine asd ?_
    refine rn ?_
    refine .gh (Gh.frz (p := .t 4) rfl (fun _ _ h => by cases h)) ?_
    refine .ret ?_
    exact ⟨by decide, by rw [decide_eq_true hle, minN, if_pos hle]; rfl, rfl, rfl⟩
end Go.FL
/-
  math/bits: Sub32, Add32.
-/
namespace Go.FL
open Go Go.Proofs

theorem w32 (X : BitVec 32) : IntKind.u32.wrap (X.toNat : Int) = X.toNat := wraps_u32 _ (by omega) (by have := X.isLt; omega)
theorem o32 (X : BitVec 32) : BitVec.ofInt IntKind.u32.bits (X.toNat : Int) = X := by
  show BitVec.ofInt 32 (X.toNat : Int) = X
  rw [BitVec.ofInt_natCast, BitVec.ofNat_toNat]; simp
theorem u32_and (X Y : BitVec 32) : bits .and .u32 (X.toNat : Int) (Y.toNat : Int) = ((X &&& Y).toNat : Int) := by
  unfold bits; simp only [o32]; exact w32 _
theorem u32_or (X Y : BitVec 32) : bits .or .u32 (X.toNat : Int) (Y.toNat : Int) = ((X ||| Y).toNat : Int) := by
  unfold bits; simp only [o32]; exact w32 _
theorem u32_xor (X Y : BitVec 32) : bits .xor .u32 (X.toNat : Int) (Y.toNat : Int) = ((X ^^^ Y).toNat : Int) := by
  unfold bits; simp only [o32]; exact w32 _
theorem u32_not (X : BitVec 32) : bits .xor .u32 (if IntKind.u32.signed then -1 else IntKind.u32.max) (X.toNat : Int) = ((~~~X).toNat : Int) := by
  have := u32_xor (BitVec.allOnes 32) X
  rw [BitVec.allOnes_xor] at this
  exact this
theorem u32_sub (X Y : BitVec 32) : IntKind.u32.wrap ((X.toNat : Int) - (Y.toNat : Int)) = ((X - Y).toNat : Int) := by
  simp only [IntKind.wrap, IntKind.bits, IntKind.signed, BitVec.toNat_sub]; simp
  have := X.isLt; have := Y.isLt; omega
theorem u32_add (X Y : BitVec 32) : IntKind.u32.wrap ((X.toNat : Int) + (Y.toNat : Int)) = ((X + Y).toNat : Int) := by
  simp only [IntKind.wrap, IntKind.bits, IntKind.signed, BitVec.toNat_add]; simp
theorem u32_top (X : BitVec 32) : (X.toNat : Int) / 2 ^ 31 = if X.msb then 1 else 0 := by
  rw [BitVec.msb_eq_decide]
  have := X.isLt
  by_cases h : 2 ^ (32 - 1) ≤ X.toNat
  · simp [h]; omega
  · simp [h]; omega
theorem sub_top (X Y B : BitVec 32) (hB : B.toNat ≤ 1) : ((~~~X &&& Y) ||| (~~~(X ^^^ Y) &&& (X - Y - B))).msb = decide (X.toNat < Y.toNat + B.toNat) := by
  have hx := X.isLt; have hy := Y.isLt
  simp only [BitVec.msb_or, BitVec.msb_and, BitVec.msb_not, BitVec.msb_xor]
  rw [BitVec.msb_eq_decide X, BitVec.msb_eq_decide Y, BitVec.msb_eq_decide (X - Y - B)]
  simp only [BitVec.toNat_sub]
  by_cases h1 : 2 ^ (32 - 1) ≤ X.toNat <;> by_cases h2 : 2 ^ (32 - 1) ≤ Y.toNat <;> simp [h1, h2] <;> omega
theorem Sub32_fn' (X Y B : BitVec 32) (hB : B.toNat ≤ 1) : Fn Try.prog 64 [.i .u32 X.toNat, .i .u32 Y.toNat, .i .u32 B.toNat]
    (.tup [.d (.i .u32 (X - Y - B).toNat), .d (.i .u32 (if decide (X.toNat < Y.toNat + B.toNat) = true then 1 else 0))]) := by
  refine Fn.of (rs := [.tmp 6, .tmp 7]) (nt := 25) Try.func64 rfl rfl rfl (by simp) rfl ?_
  refine .seq ?_
  refine .region ?_
  refine asd ?_
  refine asd ?_
  refine rn ?_
  refine .seq ?_
  refine .region ?_
  refine mvd ?_
  refine mvd ?_
  refine bi ?_
  rw [u32_sub]
  refine mvd ?_
  refine bi ?_
  rw [u32_sub]
  refine asd ?_
  refine rn ?_
  refine .seq ?_
  refine .region ?_
  refine mvd ?_
  refine xr ?_
  rw [u32_not]
  refine mvd ?_
  refine bi ?_
  rw [u32_and]
  refine mvd ?_
  refine mvd ?_
  refine bi ?_
  rw [u32_xor]
  refine xr ?_
  rw [u32_not]
  refine mvd ?_
  refine bi ?_
  rw [u32_and]
  refine bi ?_
  rw [u32_or]
  refine bic ?_ ?_
  · decide
  refine asd ?_
  refine rn ?_
  refine .ret ?_
  rw [← sub_top X Y B hB, ← u32_top]
  exact ⟨by decide, rfl, rfl, rfl⟩
theorem Sub32_fn {x y b : Nat} (hx : x < 4294967296) (hy : y < 4294967296) (hb : b ≤ 1) : Fn Try.prog 64 [U x, U y, U b]
    (.tup [.d (U ((x + 8589934592 - y - b) % 4294967296)), .d (U (if x < y + b then 1 else 0))]) := by
  have := Sub32_fn' (BitVec.ofNat 32 x) (BitVec.ofNat 32 y) (BitVec.ofNat 32 b) (by simp only [BitVec.toNat_ofNat]; omega)
  have e1 : x % 2 ^ 32 = x := Nat.mod_eq_of_lt hx
  have e2 : y % 2 ^ 32 = y := Nat.mod_eq_of_lt hy
  have e3 : b % 2 ^ 32 = b := Nat.mod_eq_of_lt (by omega)
  simp only [BitVec.toNat_ofNat, BitVec.toNat_sub, e1, e2, e3] at this
  rw [show (2 ^ 32 - b + (2 ^ 32 - y + x) % 2 ^ 32) % 2 ^ 32 = (x + 8589934592 - y - b) % 4294967296 by omega] at this
  by_cases h : x < y + b
  · simp only [h, decide_true, if_true] at this ⊢; exact this
  · simp only [h, decide_false, if_false, Bool.false_eq_true] at this ⊢; exact this
theorem Add32_fn {x y b : Nat} (hx : x < 4294967296) (hy : y < 4294967296) (hb : b < 4294967296) : Fn Try.prog 52 [U x, U y, U b]
    (.tup [.d (U ((x + y + b) % 4294967296)), .d (U ((x + y + b) / 4294967296))]) := by
  refine Fn.of (rs := [.tmp 6, .tmp 7]) (nt := 22) Try.func52 rfl rfl rfl (by simp) rfl ?_
  refine .seq ?_
  refine .region ?_
  refine asd ?_
  refine asd ?_
  refine rn ?_
  refine .seq ?_
  refine .region ?_
  refine mvd ?_
  refine cve (x : Int) (toU64 (by omega)) ?_ u32 u64
  refine mvd ?_
  refine cve (y : Int) (toU64 (by omega)) ?_ u32 u64
  refine bie (.i .u64 ((x + y : Nat) : Int)) ?_ ?_
  · exact ⟨trivial, by rw [← Int.natCast_add, toU64 (by omega)]⟩
  refine mvd ?_
  refine cve (b : Int) (toU64 (by omega)) ?_ u32 u64
  refine bie (.i .u64 ((x + y + b : Nat) : Int)) ?_ ?_
  · exact ⟨trivial, by rw [← Int.natCast_add, toU64 (by omega)]⟩
  refine asd ?_
  refine rn ?_
  refine .seq ?_
  refine .region ?_
  refine mvd ?_
  refine cve (((x + y + b) % 4294967296 : Nat) : Int) (wrapU32 _) ?_ u64 u32
  refine asd ?_
  refine rn ?_
  refine .seq ?_
  refine .region ?_
  refine mvd ?_
  refine bie (.i .u64 (((x + y + b) / 4294967296 : Nat) : Int)) ?_ ?_
  · simp [IntKind.bits]
  refine cve (((x + y + b) / 4294967296 : Nat) : Int) (toU32 (by omega)) ?_ u64 u32
  refine asd ?_
  refine rn ?_
  refine .ret ?_
  exact ⟨by decide, rfl, rfl, rfl⟩
end Go.FL
/-
  The law NatBits: a product has as many bits as both together, or one less.
-/
namespace Go.FL
open Go Go.Proofs

theorem bits_mul {x y : Nat} (hx : x ≠ 0) (hy : y ≠ 0) : bitsN (x * y) = bitsN x + bitsN y ∨ bitsN (x * y) + 1 = bitsN x + bitsN y := by
  obtain ⟨k, e1, h1, h2⟩ := bitsN_pos hx
  obtain ⟨j, e2, h3, h4⟩ := bitsN_pos hy
  rw [e1, e2]
  have l1 : 2 ^ (k + j) ≤ x * y := by rw [Nat.pow_add]; exact Nat.mul_le_mul h1 h3
  have l2 : x * y < 2 ^ (k + j + 2) := by
    rw [show k + j + 2 = (k + 1) + (j + 1) by omega, Nat.pow_add]; exact Nat.mul_lt_mul'' h2 h4
  by_cases h : x * y < 2 ^ (k + j + 1)
  · right; rw [bitsN_eq l1 h]; omega
  · left; rw [bitsN_eq (k := k + j + 1) (by omega) l2]; omega
theorem bits_zero {n : Nat} : bitsN n = 0 ↔ n = 0 := by
  unfold bitsN; split <;> simp_all
theorem bits_len {x : List Nat} {k : Nat} (h : Ok x) (hl : x.length ≤ k) : bitsN (val x) ≤ 32 * k := bitsN_iff.2 (by
  rw [Nat.pow_mul]
  exact Nat.lt_of_lt_of_le (val_lt h) (Nat.pow_le_pow_right (by decide) hl))
theorem NatBits_fn {a b : List Nat} (ha : Ok a) (hb : Ok b) : Fn Try.prog 5 [.sl (L a), .sl (L b)] (.d (.b true)) := by
  refine Fn.of (rs := [.tmp 4]) (nt := 50) Try.func5 rfl rfl rfl (by simp) rfl ?_
  refine .seq ?_
  refine .region ?_
  refine asd ?_
  refine rn ?_
  refine .seq ?_
  refine .region ?_
  refine mvd ?_
  refine cl (xs := [.sl (L a)]) ?_ (few_fn a) Try.call16
  refine mvd ?_
  refine cl (xs := [.sl (L b)]) ?_ (few_fn b) Try.call16
  refine asd ?_
  refine asd ?_
  refine rn ?_
  refine .gh (Gh.keep [5, 6] rfl) ?_
  have oa := ha.take 40
  have ob := hb.take 40
  have la : (a.take 40).length ≤ 40 := by rw [List.length_take]; omega
  have lb : (b.take 40).length ≤ 40 := by rw [List.length_take]; omega
  generalize a.take 40 = x at *
  generalize b.take 40 = y at *
  have f1 : Fn Try.prog 34 [.sl (LL [x, y])] (.d (.sl (L (digs (val x * val y))))) := by
    have := prods_fn (M := 40) (ls := [x, y]) (by simp [oa, ob]) (by simp [la, lb]) (by simp) (by decide)
    rwa [show prodF [x, y] 1 = val x * val y by simp [prodF]] at this
  have lp : (digs (val x * val y)).length ≤ 1048576 := Nat.le_trans (digs_len (k := 80) (by
    have h1 : val x < 4294967296 ^ 40 := Nat.lt_of_lt_of_le (val_lt oa) (Nat.pow_le_pow_right (by decide) la)
    have h2 : val y < 4294967296 ^ 40 := Nat.lt_of_lt_of_le (val_lt ob) (Nat.pow_le_pow_right (by decide) lb)
    have := Nat.mul_lt_mul'' h1 h2
    rw [← Nat.pow_add] at this; exact this)) (by decide)
  have f2 : Fn Try.prog 32 [.sl (L (digs (val x * val y)))] (.d (.i .i64 (bitsN (val x * val y) : Nat))) := by
    have := Bits_fn (digs_ok (val x * val y)) lp
    rwa [val_digs] at this
  have fx := Bits_fn oa (by omega)
  have fy := Bits_fn ob (by omega)
  have hbx := bits_len oa la
  have hby := bits_len ob lb
  have hz : bitsN (val x) = 0 ∨ bitsN (val y) = 0 → bitsN (val x * val y) = 0 := fun h => by
    rcases h with h | h <;> rw [bits_zero] at h <;> rw [h] <;> simp [bitsN]
  have hnz : bitsN (val x) ≠ 0 → bitsN (val y) ≠ 0 → bitsN (val x * val y) = bitsN (val x) + bitsN (val y) ∨ bitsN (val x * val y) + 1 = bitsN (val x) + bitsN (val y) := fun h1 h2 =>
    bits_mul (fun h => h1 (bits_zero.2 h)) (fun h => h2 (bits_zero.2 h))
  clear lp oa ob la lb
  generalize digs (val x * val y) = p at *
  generalize bitsN (val x * val y) = n at *
  generalize bitsN (val x) = bx at *
  generalize bitsN (val y) = by_ at *
  refine .seq ?_
  refine .region ?_
  refine mvd ?_
  refine mvd ?_
  refine bsl ?_ ?_ e2
  · simp [DV.flat, DV.cells, DV.leaf]
  refine fz (p := .t 14) ?_
  refine cl (xs := [.sl (LL [x, y])]) ?_ f1 Try.call34
  refine cl (xs := [.sl (L p)]) ?_ f2 Try.call32
  refine asd ?_
  refine rn ?_
  refine .gh (Gh.keep [5, 6, 7] rfl) ?_
  have last : ∀ {b c : Bool}, b = true → c = true → (if b then c else false) = true := fun h1 h2 => by rw [h1, h2]; rfl
  refine .seq ?_
  refine .seq ?_
  refine .region ?_
  refine mvd ?_
  refine cl (xs := [.sl (L x)]) ?_ fx Try.call32
  refine bi ?_
  refine mvd ?_
  by_cases h0 : bx = 0
  · rw [decide_eq_true (show (bx : Int) = 0 by omega)]
    have hn := hz (.inl h0)
    subst hn
    refine gf ?_
    refine gf ?_
    refine gf ?_
    refine pkd ?_
    refine rn ?_
    refine cndt ?_
    refine .seq ?_
    refine .region ?_
    refine cl (xs := []) ?_ live_fn Try.call17
    refine mvd ?_
    refine mvd ?_
    refine bi ?_
    refine pkd ?_
    refine asd ?_
    refine rn ?_
    refine .ret ?_
    exact ⟨rfl, rfl⟩
  · rw [decide_eq_false (show ¬ (bx : Int) = 0 by omega)]
    refine mvd ?_
    refine cl (xs := [.sl (L y)]) ?_ fy Try.call32
    refine bi ?_
    by_cases h1 : by_ = 0
    · rw [decide_eq_true (show (by_ : Int) = 0 by omega)]
      have hn := hz (.inr h1)
      subst hn
      refine pkd ?_
      refine rn ?_
      refine cndt ?_
      refine .seq ?_
      refine .region ?_
      refine cl (xs := []) ?_ live_fn Try.call17
      refine mvd ?_
      refine mvd ?_
      refine bi ?_
      refine pkd ?_
      refine asd ?_
      refine rn ?_
      refine .ret ?_
      exact ⟨rfl, rfl⟩
    · rw [decide_eq_false (show ¬ (by_ : Int) = 0 by omega)]
      have hn := hnz h0 h1
      refine pkd ?_
      refine rn ?_
      refine cndf ?_
      refine .skip ?_
      show AW _ _ _ _ _ _
      refine .gh (Gh.keep [5, 6, 7] rfl) ?_
      refine .seq ?_
      refine .region ?_
      refine cl (xs := []) ?_ live_fn Try.call17
      refine mvd ?_
      refine mvd ?_
      refine mvd ?_
      refine cl (xs := [.sl (L x)]) ?_ fx Try.call32
      refine mvd ?_
      refine cl (xs := [.sl (L y)]) ?_ fy Try.call32
      refine ad ((bx + by_ : Nat) : Int) ?_ ?_
      · omega
      refine bi ?_
      refine mvd ?_
      by_cases h2 : n = bx + by_
      · rw [decide_eq_true (show (n : Int) = ((bx + by_ : Nat) : Int) by omega)]
        refine gf ?_
        refine gf ?_
        refine gf ?_
        refine gf ?_
        refine gf ?_
        refine gf ?_
        refine gf ?_
        refine gf ?_
        refine pkd ?_
        refine pkd ?_
        refine asd ?_
        refine rn ?_
        refine .ret ?_
        exact ⟨rfl, rfl⟩
      · rw [decide_eq_false (show ¬ (n : Int) = ((bx + by_ : Nat) : Int) by omega)]
        refine mvd ?_
        refine mvd ?_
        refine cl (xs := [.sl (L x)]) ?_ fx Try.call32
        refine mvd ?_
        refine cl (xs := [.sl (L y)]) ?_ fy Try.call32
        refine ad ((bx + by_ : Nat) : Int) ?_ ?_
        · omega
        refine su ((bx + by_ - 1 : Nat) : Int) ?_ ?_
        · omega
        refine bi ?_
        rw [decide_eq_true (show (n : Int) = ((bx + by_ - 1 : Nat) : Int) by omega)]
        refine pkd ?_
        refine pkd ?_
        refine asd ?_
        refine rn ?_
        refine .ret ?_
        exact ⟨rfl, rfl⟩
end Go.FL
/-
  glyphref01: Sum, Product; nat.Minus.
-/
namespace Go.FL
open Go Go.Proofs

def sumF (ls : List (List Nat)) (p : Nat) : Nat := ls.foldl (fun q a => q + val a) p
theorem sumF_sum : ∀ (ls : List (List Nat)) (p : Nat), sumF ls p = p + (ls.map val).sum
  | [], p => by simp [sumF]
  | a :: r, p => by
    show sumF r (p + val a) = _
    rw [sumF_sum r, List.map_cons, List.sum_cons]; omega
theorem refSum_fn {M : Nat} {ls : List (List Nat)} (h : ∀ a ∈ ls, Ok a) (hM : ∀ a ∈ ls, a.length ≤ M) (hl : ls.length ≤ 1000) (hM2 : M ≤ 100000) : Fn Try.prog 44 [.sl (LL ls)] (.d (.sl (L (digs (ls.map val).sum)))) := by
  have hv : ∀ a ∈ ls, val a < 4294967296 ^ M := fun a ha => Nat.lt_of_lt_of_le (val_lt (h a ha)) (Nat.pow_le_pow_right (by decide) (hM a ha))
  have hpart : ∀ i, (digs (sumF (ls.take i) 0)).length ≤ M + 1 := fun i => digs_len (by
    rw [sumF_sum, Nat.zero_add]
    have h1 := sum_lt (ls := ls.take i) (fun a ha => hv a (List.mem_of_mem_take ha))
    have h2 : (ls.take i).length ≤ 1000 := by rw [List.length_take]; omega
    have h3 : (ls.take i).length * 4294967296 ^ M ≤ 1000 * 4294967296 ^ M := Nat.mul_le_mul_right _ h2
    have h4 : 0 < 4294967296 ^ M := Nat.pow_pos (by decide)
    rw [pow_split]; omega)
  refine Fn.of (rs := [.tmp 2]) (nt := 18) Try.func44 rfl rfl rfl (by simp) rfl ?_
  refine .seq ?_
  refine .region ?_
  refine asn ?_
  refine rn ?_
  refine .seq ?_
  refine .region ?_
  refine asn ?_
  refine rn ?_
  refine .mid (fun e H' => e = [(3, .d (.sl (L (digs (ls.map val).sum))))]) ?_ ?_
  · refine .seq ?_
    refine .region ?_
    refine asd ?_
    refine rn ?_
    refine .block ?_
    refine .gh (Gh.nlD (t := 3) rfl) ?_
    refine .loop (.gh (Gh.keep [0, 3, 4] rfl) ?_)
    refine AL.cast (env' := [(0, .d (.sl (LL ls))), (3, .d (.sl (L (digs (sumF (ls.take 0) 0))))), (4, .d (.i .i64 ((0 : Nat) : Int)))]) (by rw [List.take_zero]; show _ = [(0, AV.d (.sl (LL ls))), (3, .d (.sl (L (digs 0)))), _]; rw [digs_zero]; rfl) ?_
    refine AL.ind (σ := Nat) (m := fun i => ls.length - i) (e := fun i => [(0, .d (.sl (LL ls))), (3, .d (.sl (L (digs (sumF (ls.take i) 0))))), (4, .d (.i .i64 (i : Int)))]) (h := fun _ => [])
      (I := fun i => i ≤ ls.length) ?_ 0 (Nat.zero_le _)
    intro i h1 ih
    refine .seq ?_
    refine .seq ?_
    refine .region ?_
    refine mvd ?_
    refine mvd ?_
    refine ln ?_ (LL_sz _) l2
    refine bi ?_
    refine rn ?_
    by_cases hi : i < ls.length
    · rw [decide_eq_true (show (i:Int) < ((LL ls).length : Nat) by rw [LL_length]; omega)]
      have hy : ls[i]? = some ls[i] := List.getElem?_eq_getElem hi
      have htk : ls.take (i + 1) = ls.take i ++ [ls[i]] := List.take_succ_eq_append_getElem hi
      generalize ls[i] = y at hy htk
      have hyo := h y (List.mem_of_getElem? hy)
      have hyl := hM y (List.mem_of_getElem? hy)
      have hst : sumF (ls.take (i + 1)) 0 = sumF (ls.take i) 0 + val y := by rw [htk, sumF, sumF, List.foldl_append]; rfl
      have hp := hpart i
      refine cndt ?_
      refine .skip ?_
      show AW _ _ _ _ _ _
      refine .seq ?_
      refine .block ?_
      refine .region ?_
      refine mvd ?_
      refine mvd ?_
      refine mvd ?_
      refine ix i ?_ rfl (LL_at hy) rfl s2
      refine ldp ?_ a2
      refine cl (xs := [.sl (L (digs (sumF (ls.take i) 0))), .sl (L y)]) ?_ (Add_fn (a := digs (sumF (ls.take i) 0)) (digs_ok _) hyo (by omega) (by omega)) Try.call61
      rw [val_digs, ← hst]
      refine aso ?_
      refine RL.gh (Gh.frz (p := .t 3) rfl (fun _ _ h => by cases h)) ?_
      refine .nil ?_
      show AW _ _ _ _ _ _
      refine .region ?_
      refine mvd ?_
      refine ad ((i + 1 : Nat) : Int) ?_ ?_
      · omega
      refine asd ?_
      refine rn ?_
      refine .gh (Gh.keep [0, 3, 4] rfl) ?_
      exact ih (i + 1) (by omega) (by omega)
    · rw [decide_eq_false (show ¬ (i:Int) < ((LL ls).length : Nat) by rw [LL_length]; omega)]
      refine cndf ?_
      refine .gh (Gh.keep [3] rfl) ?_
      refine .exit ?_
      have e1 : sumF (ls.take i) 0 = (ls.map val).sum := by rw [List.take_of_length_le (by omega), sumF_sum, Nat.zero_add]
      show _ = _
      rw [← e1]; rfl
  rintro _ _ rfl
  refine .seq ?_
  refine .region ?_
  refine mvd ?_
  refine asd ?_
  refine rn ?_
  refine .ret ?_
  exact ⟨rfl, rfl⟩
theorem refProds_fn {M : Nat} {ls : List (List Nat)} (h : ∀ a ∈ ls, Ok a) (hM : ∀ a ∈ ls, a.length ≤ M) (hl : ls.length ≤ 10) (hM2 : M ≤ 20000) : Fn Try.prog 45 [.sl (LL ls)] (.d (.sl (L (digs (prodF ls 1))))) := by
  have hv : ∀ a ∈ ls, val a < 4294967296 ^ M := fun a ha => Nat.lt_of_lt_of_le (val_lt (h a ha)) (Nat.pow_le_pow_right (by decide) (hM a ha))
  have hpart : ∀ i, (digs (prodF (ls.take i) 1)).length ≤ 200001 := fun i => by
    have h1 := prodF_lt (ls.take i) 1 1 (fun a ha => hv a (List.mem_of_mem_take ha)) (by decide)
    have h2 := digs_len h1
    have h3 : M * (ls.take i).length ≤ 20000 * 10 := Nat.mul_le_mul hM2 (by rw [List.length_take]; omega)
    omega
  have one : digs 1 = [1] := one_limb (n := 1) (by decide) (by decide)
  refine Fn.of (rs := [.tmp 2]) (nt := 19) Try.func45 rfl rfl rfl (by simp) rfl ?_
  refine .seq ?_
  refine .region ?_
  refine asn ?_
  refine rn ?_
  refine .seq ?_
  refine .region ?_
  refine bsl ?_ ?_ e32
  · simp [DV.flat, DV.cells, DV.leaf]
  refine aso ?_
  refine rn ?_
  refine .mid (fun e H' => e = [(3, .d (.sl (L (digs (prodF ls 1)))))]) ?_ ?_
  · refine .seq ?_
    refine .region ?_
    refine asd ?_
    refine rn ?_
    refine .block ?_
    refine .gh (Gh.frz (p := .t 3) rfl (fun _ _ h => by cases h)) ?_
    refine .loop (.gh (Gh.keep [0, 3, 4] rfl) ?_)
    refine AL.cast (env' := [(0, .d (.sl (LL ls))), (3, .d (.sl (L (digs (prodF (ls.take 0) 1))))), (4, .d (.i .i64 ((0 : Nat) : Int)))]) (by rw [List.take_zero]; show _ = [(0, AV.d (.sl (LL ls))), (3, .d (.sl (L (digs 1)))), _]; rw [one]; rfl) ?_
    refine AL.ind (σ := Nat) (m := fun i => ls.length - i) (e := fun i => [(0, .d (.sl (LL ls))), (3, .d (.sl (L (digs (prodF (ls.take i) 1))))), (4, .d (.i .i64 (i : Int)))]) (h := fun _ => [])
      (I := fun i => i ≤ ls.length) ?_ 0 (Nat.zero_le _)
    intro i h1 ih
    refine .seq ?_
    refine .seq ?_
    refine .region ?_
    refine mvd ?_
    refine mvd ?_
    refine ln ?_ (LL_sz _) l2
    refine bi ?_
    refine rn ?_
    by_cases hi : i < ls.length
    · rw [decide_eq_true (show (i:Int) < ((LL ls).length : Nat) by rw [LL_length]; omega)]
      have hy : ls[i]? = some ls[i] := List.getElem?_eq_getElem hi
      have htk : ls.take (i + 1) = ls.take i ++ [ls[i]] := List.take_succ_eq_append_getElem hi
      generalize ls[i] = y at hy htk
      have hyo := h y (List.mem_of_getElem? hy)
      have hyl := hM y (List.mem_of_getElem? hy)
      have hst : prodF (ls.take (i + 1)) 1 = prodF (ls.take i) 1 * val y := by rw [htk, prodF, prodF, List.foldl_append]; rfl
      have hp := hpart i
      refine cndt ?_
      refine .skip ?_
      show AW _ _ _ _ _ _
      refine .seq ?_
      refine .block ?_
      refine .region ?_
      refine mvd ?_
      refine mvd ?_
      refine mvd ?_
      refine ix i ?_ rfl (LL_at hy) rfl s2
      refine ldp ?_ a2
      refine cl (xs := [.sl (L (digs (prodF (ls.take i) 1))), .sl (L y)]) ?_ (Mul_fn (a := digs (prodF (ls.take i) 1)) (digs_ok _) hyo (by omega) (by omega)) Try.call62
      rw [val_digs, ← hst]
      refine aso ?_
      refine RL.gh (Gh.frz (p := .t 3) rfl (fun _ _ h => by cases h)) ?_
      refine .nil ?_
      show AW _ _ _ _ _ _
      refine .region ?_
      refine mvd ?_
      refine ad ((i + 1 : Nat) : Int) ?_ ?_
      · omega
      refine asd ?_
      refine rn ?_
      refine .gh (Gh.keep [0, 3, 4] rfl) ?_
      exact ih (i + 1) (by omega) (by omega)
    · rw [decide_eq_false (show ¬ (i:Int) < ((LL ls).length : Nat) by rw [LL_length]; omega)]
      refine cndf ?_
      refine .gh (Gh.keep [3] rfl) ?_
      refine .exit ?_
      have e1 : prodF (ls.take i) 1 = prodF ls 1 := by rw [List.take_of_length_le (by omega)]
      show _ = _
      rw [← e1]; rfl
  rintro _ _ rfl
  refine .seq ?_
  refine .region ?_
  refine mvd ?_
  refine asd ?_
  refine rn ?_
  refine .ret ?_
  exact ⟨rfl, rfl⟩

/-- One limb less another, with what was lent. -/
theorem sub_limb {x y c : Nat} (hx : x < 4294967296) (hy : y < 4294967296) (hc : c ≤ 1) : x + 4294967296 * (if x < y + c then 1 else 0) = y + c + (x + 8589934592 - y - c) % 4294967296 := by
  split <;> omega
theorem subset_step {O O' P x y c A A' B B' q r T U : Nat} (hq : x + 4294967296 * q = y + c + r) (hA : A = x + 4294967296 * A') (hB : B = y + 4294967296 * B') (h : T + (B + c) * P = U + O) (hs : O' + x * P = O + r * P) : T + (B' + q) * (P * 4294967296) = U + O' := by
  grind
theorem Minus_fn {a b : List Nat} (ha : Ok a) (hb : Ok b) (hla : a.length ≤ 500000) (hlb : b.length ≤ 500000) : Fn Try.prog 42 [.sl (L a), .sl (L b)] (.tup [.d (.sl (L (digs (minN (val a) (val b))))), .d (.b (decide (val b ≤ val a)))]) := by
  refine Fn.of (rs := [.tmp 4, .tmp 5]) (nt := 47) Try.func42 rfl rfl rfl (by simp) rfl ?_
  refine .seq ?_
  refine .region ?_
  refine asn ?_
  refine asd ?_
  refine rn ?_
  refine .seq ?_
  refine .seq ?_
  refine .region ?_
  refine mvd ?_
  refine mvd ?_
  refine cl (xs := [.sl (L a), .sl (L b)]) ?_ (Compare_fn ha hb (by omega) (by omega)) Try.call30
  refine bi ?_
  refine rn ?_
  by_cases hlt : val a < val b
  · rw [decide_eq_true (show cmpN (val a) (val b) < 0 by unfold cmpN; rw [if_pos hlt]; decide)]
    refine cndt ?_
    refine .seq ?_
    refine .region ?_
    refine asn ?_
    refine asd ?_
    refine rn ?_
    refine .gh (Gh.nlD (t := 4) rfl) ?_
    refine .ret ?_
    exact ⟨by decide, by rw [decide_eq_false (show ¬ val b ≤ val a by omega), minN, if_neg (by omega), digs_zero]; rfl, rfl, rfl⟩
  · have hle : val b ≤ val a := by omega
    rw [decide_eq_false (show ¬ cmpN (val a) (val b) < 0 by unfold cmpN; rw [if_neg hlt]; split <;> decide)]
    refine cndf ?_
    refine .skip ?_
    show AW _ _ _ _ _ _
    refine .gh (Gh.keep [0, 1, 4, 5] rfl) ?_
    have oa := digs_ok (val a)
    have ob := digs_ok (val b)
    have va := val_digs (val a)
    have vb := val_digs (val b)
    have la := Nat.le_trans (digs_len_le ha) hla
    have lb := Nat.le_trans (digs_len_le hb) hlb
    refine .seq ?_
    refine .region ?_
    refine mvd ?_
    refine cl (xs := [.sl (L a)]) ?_ (Trim_fn ha (by omega)) Try.call26
    refine aso ?_
    refine rn ?_
    refine .seq ?_
    refine .region ?_
    refine mvd ?_
    refine cl (xs := [.sl (L b)]) ?_ (cut_val hb (by omega)) Try.call46
    refine asd ?_
    refine rn ?_
    generalize digs (val a) = xs at *
    generalize digs (val b) = ys at *
    refine .seq ?_
    refine .region ?_
    refine asd ?_
    refine rn ?_
    refine .mid (fun e H' => ∃ out, e = [(6, .own 49 (L out))] ∧ H' = [] ∧ Ok out ∧ out.length = xs.length ∧ val out = val a - val b) ?_ ?_
    · refine .seq ?_
      refine .region ?_
      refine mvo ?_
      refine lnr ?_ l32
      refine mvd ?_
      refine rn ?_
      refine .block ?_
      refine .loop (.gh (Gh.keep [1, 6, 7, 19, 20] rfl) ?_)
      refine AL.ind (σ := List Nat × Nat × Nat) (m := fun s => xs.length - s.2.1) (e := fun s => [(1, .d (.sl (L ys))), (6, .own 49 (L s.1)), (7, .d (.i .u32 (s.2.2 : Int))), (19, .d (.i .i64 ((L xs).length : Nat))), (20, .d (.i .i64 (s.2.1 : Int)))]) (h := fun _ => [])
        (I := fun s => Ok s.1 ∧ s.1.length = xs.length ∧ s.2.1 ≤ xs.length ∧ s.2.2 ≤ 1 ∧ s.1.drop s.2.1 = xs.drop s.2.1 ∧ val a + (val (ys.drop s.2.1) + s.2.2) * 4294967296 ^ s.2.1 = val b + val s.1) ?_ (xs, 0, 0) ⟨oa, rfl, Nat.zero_le _, by simp, rfl, by simp [va, vb]; omega⟩
      rintro ⟨out, i, c⟩ ⟨h1, h2, h3, h4, h5, h6⟩ ih
      dsimp only at h1 h2 h3 h4 h5 h6 ih ⊢
      refine .seq ?_
      refine .region ?_
      refine bi ?_
      refine rn ?_
      refine .seq ?_
      by_cases hi : i < xs.length
      · rw [decide_eq_true (show (i : Int) < ((L xs).length : Nat) by rw [L_length]; omega)]
        have hx : out[i]? = some out[i] := List.getElem?_eq_getElem (by omega)
        have hdr : out.drop i = out[i] :: out.drop (i + 1) := List.drop_eq_getElem_cons (by omega)
        have hdx : val (out.drop i) = out[i] + 4294967296 * val (out.drop (i + 1)) := by rw [hdr, val]
        have hxl := h1.at hx
        have hyl := getD_lt ob i
        have hdy := drop_val (b := ys) i
        have hy : ∀ h : i < ys.length, ys[i]? = some (ys.getD i 0) := fun h => by rw [List.getD_eq_getElem?_getD, List.getElem?_eq_getElem h]; rfl
        have hy0 : ¬ i < ys.length → ys.getD i 0 = 0 := fun h => by rw [List.getD_eq_getElem?_getD, List.getElem?_eq_none (by omega)]; rfl
        generalize out[i] = x at *
        generalize ys.getD i 0 = y at *
        have f1 := Sub32_fn hxl hyl h4
        have hq := sub_limb hxl hyl h4
        have hq1 : (if x < y + c then 1 else 0) ≤ 1 := by split <;> omega
        have hr1 : (x + 8589934592 - y - c) % 4294967296 < 4294967296 := Nat.mod_lt _ (by decide)
        generalize (if x < y + c then 1 else 0) = q at *
        generalize (x + 8589934592 - y - c) % 4294967296 = r at *
        have hset := set_val hx (y := r)
        have hstep := subset_step hq hdx hdy h6 hset
        refine cndt ?_
        refine .skip ?_
        show AW _ _ _ _ _ _
        refine .seq ?_
        refine .block ?_
        refine .seq ?_
        refine .region ?_
        refine mvd ?_
        refine asd ?_
        refine rn ?_
        refine .seq ?_
        refine .region ?_
        refine asd ?_
        refine rn ?_
        refine .mid (fun e H' => H' = [] ∧ e = [(1, .d (.sl (L ys))), (6, .own 49 (L out)), (7, .d (.i .u32 (c : Int))), (8, .d (.i .i64 (i : Int))), (9, .d (.i .u32 (y : Int))), (19, .d (.i .i64 ((L xs).length : Nat))), (20, .d (.i .i64 (i : Int)))]) ?_ ?_
        · refine .seq ?_
          refine .region ?_
          refine mvd ?_
          refine mvd ?_
          refine ln ?_ (L_sz _) l32
          refine bi ?_
          refine rn ?_
          by_cases hiy : i < ys.length
          · rw [decide_eq_true (show (i : Int) < ((L ys).length : Nat) by rw [L_length]; omega)]
            refine cndt ?_
            refine .region ?_
            refine mvd ?_
            refine mvd ?_
            refine ix i ?_ rfl (L_at (hy hiy)) rfl s32
            refine ldp ?_ a32
            refine asd ?_
            refine RL.gh (Gh.keep [1, 6, 7, 8, 9, 19, 20] rfl) ?_
            refine .nil ?_
            exact ⟨rfl, rfl⟩
          · rw [decide_eq_false (show ¬ (i : Int) < ((L ys).length : Nat) by rw [L_length]; omega)]
            have := hy0 hiy
            subst this
            refine cndf ?_
            refine .gh (Gh.keep [1, 6, 7, 8, 9, 19, 20] rfl) ?_
            refine .skip ?_
            exact ⟨rfl, rfl⟩
        rintro _ _ ⟨rfl, rfl⟩
        refine .region ?_
        refine mvo ?_
        refine mvd ?_
        refine mvo ?_
        refine mvd ?_
        refine ixr i ?_ ?_ ?_ s32 (by decide)
        · rfl
        · rw [L_length, h2]; omega
        refine lde (U x) ?_ ?_ a32
        · rw [Nat.zero_add]; exact L_at' hx
        refine mvd ?_
        refine mvd ?_
        refine cl (xs := [U x, U y, U c]) ?_ f1 Try.call64
        refine mvt ?_
        refine ex ?_
        refine ex ?_
        refine ixr i ?_ ?_ ?_ s32 (by decide)
        · rfl
        · rw [L_length, h2]; omega
        refine ste ?_ ?_ z32
        · rw [Nat.zero_add]; exact L_leaf hx
        refine asd ?_
        refine .nil ?_
        show AW _ _ _ _ _ _
        refine .region ?_
        refine ad ((i + 1 : Nat) : Int) ?_ ?_
        · omega
        refine mvd ?_
        refine rn ?_
        refine .gh (Gh.keep [1, 6, 7, 19, 20] rfl) ?_
        have := ih (out.set i r, i + 1, q) ⟨h1.set _ hr1, by dsimp only; rw [List.length_set]; exact h2, by dsimp only; omega, hq1, ?_, ?_⟩ (by dsimp only; omega)
        · dsimp only at this
          have e0 : (L out).set (0 + i) (U r) = L (out.set i r) := by rw [Nat.zero_add, L_set]
          rw [← e0] at this
          exact this
        · dsimp only
          rw [List.drop_set_of_lt (by omega)]
          have e1 : xs.drop (i + 1) = (xs.drop i).drop 1 := by rw [List.drop_drop]
          have e2 : out.drop (i + 1) = (out.drop i).drop 1 := by rw [List.drop_drop]
          rw [e1, e2, h5]
        · dsimp only
          rw [Nat.pow_succ]; exact hstep
      · rw [decide_eq_false (show ¬ (i : Int) < ((L xs).length : Nat) by rw [L_length]; omega)]
        refine cndf ?_
        refine .gh (Gh.keep [6] rfl) ?_
        refine .exit ?_
        have hie : i = xs.length := by omega
        refine ⟨out, rfl, rfl, h1, h2, ?_⟩
        have hvo := val_lt h1
        rw [h2] at hvo
        rw [hie] at h6
        have hz : val (ys.drop xs.length) + c = 0 := by
          apply Classical.byContradiction
          intro hne
          have : 1 * 4294967296 ^ xs.length ≤ (val (ys.drop xs.length) + c) * 4294967296 ^ xs.length := Nat.mul_le_mul_right _ (by omega)
          omega
        rw [hz] at h6
        omega
    rintro _ _ ⟨out, rfl, rfl, h1, h2, h3⟩
    refine .seq ?_
    refine .region ?_
    refine fz (p := .t 6) ?_
    refine mvd ?_
    refine cl (xs := [.sl (L out)]) ?_ (cut_val h1 (by omega)) Try.call46
    rw [h3]
    refine asd ?_
    refine asd ?_
    refine rn ?_
    refine .ret ?_
    exact ⟨by decide, by rw [decide_eq_true hle, minN, if_pos hle]; rfl, rfl, rfl⟩
end Go.FL
/-
  A FUNCTIONAL LOGIC, 29: strings as bytes; parts of strings; what is made, seen as deep at once.
-/
namespace Go.FL
open Go Go.RowKit

/-- The bytes of a string. -/
def byts (s : ByteArray) : List Nat := s.data.toList.map UInt8.toNat
theorem byts_length (s : ByteArray) : (byts s).length = s.size := by simp [byts]
theorem byts_lt (s : ByteArray) : ∀ x ∈ byts s, x < 256 := fun x hx => by
  simp only [byts, List.mem_map] at hx
  obtain ⟨b, _, rfl⟩ := hx
  exact b.toNat_lt
theorem byts_bstr {ns : List Nat} (h : ∀ x ∈ ns, x < 256) : byts (bstr ns) = ns := by
  simp only [byts, bstr, List.map_map]
  conv => rhs; rw [← List.map_id ns]
  refine List.map_congr_left fun x hx => ?_
  have := h x hx
  simp; omega

section
variable {P : Program} {C : Cx} {X : Snap} {o : Oper} {ops : Array Oper} {Q : Exit → Env → Heap → Prop} {env env' : Env} {H H' : Heap} {a : Act} {w w' : World} {I I' : Nat → Prop} {μ μ' : List Nat} {O O' : Nat → Option Loc}
  {K : Env → Heap → Prop} {k : Nat} {l : List Oper}

/-- A slice that is nobody else's, seen as deep at once. -/
theorem VOK.deep {e : TypeId} {xs : List DV} (h : VOK P C o env H (.own e xs)) : VOK P C o env H (.d (.sl xs)) := by
  intro X a w I μ O next Q h1 h2 h3 hs hn
  refine h X a w I μ O next Q h1 h2 h3 hs fun v w' I' bs k1 k2 k3 k4 _ k6 => ?_
  have hr : Rep w' (fun b => I' b ∨ b ∈ bs) (.sl xs) v := by
    obtain ⟨A, c, rfl, _, hsub⟩ := own_frozen (I' := fun b => I' b ∨ b ∈ bs) k4 (fun b hb => .inl hb) (fun b hb => .inr hb) 0 xs.length (by omega)
    have := hsub (.slice A xs.length c) ⟨A, c, rfl, (own_cap k4).2.1, fun _ => ⟨rfl, rfl⟩, fun _ => by cases A <;> simp [Addr.add]⟩
    simpa using this
  exact hn v w' (fun b => I' b ∨ b ∈ bs) [] k1 (fun b hb => .inl (k2 b hb)) (fun b hb => by
    rcases hb with hb | hb
    · exact k3 b hb
    · exact ⟨(k6 b hb).2.1, fun hlt => absurd hlt (by have := (k6 b hb).1; omega)⟩) (.d hr) List.nodup_nil (by simp)
theorem vids {x i : Operand} {ty : Nat} {s : ByteArray} {q : IntKind} {z : Int} (n y : Nat) (hn : z = n) (hb : (byts s)[n]? = some y) (hty : P.underlying ty = some .string)
    (ho : o.op = .index ty x i := by rfl) (hv : lk env x = .d (.s s) := by rfl) (hi : lk env i = .d (.i q z) := by rfl) : VOK P C o env H (.d (.i .u8 (y : Int))) := by
  subst hn
  obtain ⟨h1, h2⟩ := lk_copy hv (by simp)
  obtain ⟨h3, h4⟩ := lk_copy hi (by simp)
  have hl : n < s.size := by have := (List.getElem?_eq_some_iff.1 hb).1; rwa [byts_length] at this
  have := pv_idx (P := P) (C := C) (env := env) (H := H) ho h1 h3 hty h2 h4 (by omega) (by omega)
  have hy : (s.data.toList.getD (n : Int).toNat 0).toNat = y := by
    have hl2 : n < s.data.toList.length := by simpa using hl
    simp only [byts, List.getElem?_map, List.getElem?_eq_getElem hl2, Option.map_some, Option.some.injEq] at hb
    rw [List.getD_eq_getElem?_getD, Int.toNat_natCast, List.getElem?_eq_getElem hl2]; exact hb
  rw [hy] at this
  exact .pv this
/-- A byte of a string. -/
theorem idb {x i : Operand} {ty t : Nat} {s : ByteArray} {q : IntKind} {z : Int} (n y : Nat) (hn : z = n) (hb : (byts s)[n]? = some y) (h : RL P C ops Q (k + 1) l ((t, .d (.i .u8 (y : Int))) :: env) H) (hty : P.underlying ty = some .string)
    (hg : grd ops env o true = true := by rfl) (ho : o.op = .index ty x i := by rfl) (hv : lk env x = .d (.s s) := by rfl) (hi : lk env i = .d (.i q z) := by rfl) (hd : o.dst = some t := by rfl) (hf : isOwn (get env t) = false := by rfl) (ht : okT C.nt t := by rfl) :
    RL P C ops Q k (o :: l) env H := by
  have hl : n < s.data.toList.length := by have := (List.getElem?_eq_some_iff.1 hb).1; simpa [byts] using this
  have hb2 : s.data.toList[n]? = some s.data.toList[n] := List.getElem?_eq_getElem hl
  have hy : s.data.toList[n].toNat = y := by
    simp only [byts, List.getElem?_map, hb2, Option.map_some, Option.some.injEq] at hb; exact hb
  refine ids n hn hb2 ?_ hty hg ho hv hi hd hf ht
  rw [hy]; exact h
/-- The first part of a string. -/
theorem sls {x y : Operand} {ty t : Nat} {s : ByteArray} {q : IntKind} {z : Int} (n : Nat) (hn : z = n ∧ n ≤ s.size) (h : RL P C ops Q (k + 1) l ((t, .d (.s (s.extract 0 n))) :: env) H) (hty : P.underlying ty = some .string)
    (hg : grd ops env o true = true := by rfl) (ho : o.op = .slice ty x none (some y) none := by rfl) (hv : lk env x = .d (.s s) := by rfl) (hi : lk env y = .d (.i q z) := by rfl) (hd : o.dst = some t := by rfl) (hf : isOwn (get env t) = false := by rfl) (ht : okT C.nt t := by rfl) :
    RL P C ops Q k (o :: l) env H := by
  obtain ⟨rfl, hl⟩ := hn
  obtain ⟨h1, h2⟩ := lk_copy hv (by simp)
  obtain ⟨h3, h4⟩ := lk_copy hi (by simp)
  rw [← put_cons hf] at h
  refine .go hg (.pure (by simp [ho]) hd ht (fun X a w I μ O _ hs => ⟨.string (s.extract 0 n), ?_, .of_rep (.s _)⟩) h)
  have e1 := hs.look_s h1 h2
  have e2 := hs.look_i h3 h4
  have := run_slice_string_h (P := P) w ty s hty q (n : Int) (by omega) (by omega)
  rw [Int.toNat_natCast] at this
  simp only [execOp, ho, e1, Option.map_none, Option.map_some, e2, Instr.sliceAt, Sem.run_bind, run_underlying hty, this, Result.andThen_ok, Sem.run_pure]
/-- A string's bytes, in memory of their own that nobody changes. -/
theorem csb {x : Operand} {src dst e t : Nat} {s : ByteArray} (hs' : P.underlying src = some .string) (hd' : P.underlying dst = some (.slice e)) (he : P.underlying e = some (.int .u8)) (h : RL P C ops Q (k + 1) l ((t, .d (.sl (B (byts s)))) :: env) H)
    (hg : grd ops env o true = true := by rfl) (ho : o.op = .convert src dst x := by rfl) (hv : lk env x = .d (.s s) := by rfl) (hd : o.dst = some t := by rfl) (hf : isOwn (get env t) = false := by rfl) (ht : okT C.nt t := by rfl) :
    RL P C ops Q k (o :: l) env H := by
  obtain ⟨h1, h2⟩ := lk_copy hv (by simp)
  rw [← put_cons hf] at h
  refine .go hg (.val (by simp [ho]) hd ht (fun X a w I μ O _ _ _ hs => ?_) h)
  have e1 := hs.look_s h1 h2
  have hrun := run_bytes_of_string (P := P) w src dst e s hs' hd' he
  generalize hcp : grownCap w s.size 0 e = cp at hrun
  generalize hob : Obj.cells (bytesRow s cp) e ((bytesRow s cp).size, (bytesRow s cp).size + 1) = ob at hrun
  have hb : Below w.heap.size w (w.drew.alloc ob) := by
    have : Below w.heap.size w w.drew := ⟨rfl, rfl, rfl, Nat.le_refl _, fun _ _ => rfl⟩
    exact this.trans (alloc_below (w := w.drew) ob)
  let I' : Nat → Prop := fun b => I b ∨ b = w.heap.size
  have hsz : (w.drew.alloc ob).heap.size = w.heap.size + 1 := by rw [World.size_alloc]; rfl
  have s1 := hs.called (I' := I') hb (fun b hi => .inl hi) fun b hi => by
    rcases hi with hi | rfl
    · exact ⟨Nat.lt_of_lt_of_le (hs.ilt b hi) hb.size, fun _ => hi⟩
    · exact ⟨by rw [hsz]; exact Nat.lt_succ_self _, fun hlt => absurd hlt (Nat.lt_irrefl _)⟩
  refine ⟨.slice (some ⟨w.heap.size, 0, none⟩) s.size cp, _, I', μ, O, ?_, s1, [], .d ?_, List.nodup_nil, by simp⟩
  · simp only [execOp, ho, e1, Sem.run_bind, hrun, Result.andThen_ok, Sem.run_pure]
  · have hlen : (B (byts s)).length = s.size := by rw [B_length, byts_length]
    rw [← hlen]
    by_cases h0 : B (byts s) = []
    · rw [h0]; exact .sl0 _ _
    · have hcells : (s.data.toList.map fun b => Value.int .u8 b.toNat).length = s.size := by simp
      refine .sl (B (byts s)) w.heap.size 0 1 cp (s.data.toList.map fun b => Value.int .u8 b.toNat) h0 ?_ (.inr rfl) (by decide) ?_ ?_
      · rw [hlen, ← hcp]; exact grownCap_ge w s.size 0 e
      · intro j u hj
        have hnew : (w.drew.alloc ob).heap[w.heap.size]? = some ob := World.alloc_heap_new w.drew ob
        show World.cell? _ ⟨w.heap.size, 0 + j, none⟩ = _
        unfold World.cell?
        show (match (w.drew.alloc ob).heap[w.heap.size]? with | some (.cells c _ _) => _ | _ => _) = _
        rw [hnew, ← hob]
        show (bytesRow s cp)[0 + j]? = some u
        rw [Nat.zero_add]
        have hjl : j < s.data.toList.length := by have := (List.getElem?_eq_some_iff.1 hj).1; simpa using this
        simp only [bytesRow]
        rw [Array.getElem?_append_left (by simpa using hjl)]
        simpa using hj
      · have : ∀ (l : List UInt8), RepRows (w.drew.alloc ob) I' 1 (B (l.map UInt8.toNat)) (l.map fun b => Value.int .u8 b.toNat) := by
          intro l
          induction l with
          | nil => exact .nil _
          | cons b l ih =>
            have := RepRows.cons (sz := 1) (w := w.drew.alloc ob) (I := I') (x := .i .u8 (b.toNat : Int)) (us := [.int .u8 b.toNat]) rfl (by simp [Value.oneCell']) (.cons (.i _ _) .nil) ih
            simpa [B] using this
        exact this _
end
end Go.FL
/-
  A FUNCTIONAL LOGIC, 30: slices with room behind them.
-/
namespace Go.FL
open Go Go.RowKit

section
variable {P : Program} {C : Cx} {X : Snap} {o : Oper} {ops : Array Oper} {Q : Exit → Env → Heap → Prop} {env env' : Env} {H H' : Heap} {a : Act} {w w' : World} {I I' : Nat → Prop} {μ μ' : List Nat} {O O' : Nat → Option Loc}
  {K : Env → Heap → Prop} {k : Nat} {l : List Oper}

/-- Without the room. -/
theorem Rep.unslx {xs sp : List DV} {v : Value} (h : Rep w I (.slx xs sp) v) : Rep w I (.sl xs) v := by
  cases h with
  | slx _ _ bk o sz c vs hc hI hsz hh hr =>
    by_cases h0 : xs = []
    · subst h0; exact .sl0 _ _
    · refine .sl xs bk o sz c (vs.take (xs.length * sz)) h0 (by omega) hI hsz (hh.take _) ?_
      have := hr.take xs.length
      rwa [List.take_left] at this
theorem Gh.slx {t : Nat} {xs sp : List DV} (h : get env t = .d (.slx xs sp)) : Gh P C env H ((t, .d (.sl xs)) :: env) H := fun X a w I μ O _ _ _ hs => by
  have ht := hs.envr t
  rw [h] at ht
  obtain ⟨bs, h1, h2, h3⟩ := ht.plain rfl
  refine ⟨I, O, ⟨hs.toMem, fun s => ?_, hs.nt, hs.dfs⟩⟩
  by_cases hst : t = s
  · subst hst
    have : get ((t, AV.d (.sl xs)) :: env) t = .d (.sl xs) := by simp [get]
    rw [this]
    generalize hv : a.tmps.getD t undef = v at h1
    cases h1 with
    | d h1 =>
      refine .of (bs := []) ?_ List.nodup_nil (by simp)
      rw [hv]
      exact .d h1.unslx
  · have hg : get ((t, AV.d (.sl xs)) :: env) s = get env s := by simp [get, hst]
    rw [hg]
    have hpl : ∀ p e' ys, plAV env H p = .own e' ys → plAV ((t, AV.d (.sl xs)) :: env) H p = .own e' ys := by
      intro p e' ys hx
      cases p with
      | t r =>
        show get _ r = _
        by_cases hr : t = r
        · subst hr; rw [show plAV env H (.t t) = get env t from rfl, h] at hx; cases hx
        · simp only [get, if_neg hr]; exact hx
      | c id off => exact hx
    have h := hs.envr s
    cases hg : get env s with
    | ref p off len =>
      rw [hg] at h
      obtain ⟨e', ys, A, n, c, h1, h2, h3, h4⟩ := h
      exact ⟨e', ys, A, n, c, hpl p e' ys h1, h2, h3, h4⟩
    | ep p i k =>
      rw [hg] at h
      obtain ⟨e', ys, b, n, c, h1, h2, h3, h4, h5⟩ := h
      exact ⟨e', ys, b, n, c, hpl p e' ys h1, h2, h3, h4, h5⟩
    | _ =>
      rw [hg] at h
      obtain ⟨bs, h1, h2, h3⟩ := h.plain rfl
      exact .of h1 h2 h3
/-- The first part of a slice, which keeps the rest behind it. -/
theorem slk {x y : Operand} {ty t e sz by_ : Nat} {q : IntKind} {z : Int} {xs sp : List DV} (hz : z = xs.length) (hsp : sp ≠ []) (h : RL P C ops Q (k + 1) l ((t, .d (.slx xs sp)) :: env) H) (hty : sliceT P ty = some (e, sz, by_))
    (hg : grd ops env o true = true := by rfl) (ho : o.op = .slice ty x none (some y) none := by rfl) (hv : lk env x = .d (.sl (xs ++ sp)) := by rfl) (hi : lk env y = .d (.i q z) := by rfl) (hd : o.dst = some t := by rfl) (hf : isOwn (get env t) = false := by rfl) (ht : okT C.nt t := by rfl) :
    RL P C ops Q k (o :: l) env H := by
  subst hz
  obtain ⟨h1, h2⟩ := lk_copy hv (by simp)
  obtain ⟨h3, h4⟩ := lk_copy hi (by simp)
  rw [← put_cons hf] at h
  obtain ⟨inf, s1, s2, s3, _, s5⟩ := sliceT_spec hty
  refine .go hg (.pure (by simp [ho]) hd ht (fun X a w I μ O _ hs => ?_) h)
  have hr := hs.look_d h1 h2
  have e2 := hs.look_i h3 h4
  generalize hev : a.eval x = u at hr
  generalize hys : xs ++ sp = ys at hr
  cases hr with
  | sl0 => simp at hys; exact absurd hys.2 hsp
  | sl _ bk off sz' c vs hne hc hI hsz' hh hrow =>
    subst hys
    have hb : (Instr.sliceBounds true (xs ++ sp).length c none (some (.int q (xs.length : Int))) none).run P w = .ok (0, xs.length, c) w := by
      have := run_bounds (P := P) (w := w) (isS := true) (len := (xs ++ sp).length) (cap := c) (lo := none) (hi := some (.int q (xs.length : Int))) (mx := none) (l := 0) (h := xs.length) (by omega) (by omega) (.inl ⟨rfl, rfl⟩) (.inr ⟨q, rfl⟩) (m := c) (.inl ⟨rfl, rfl⟩) (by simp at hc; omega) (Int.le_refl _)
      simpa using this
    have hc0 : c ≠ 0 := by
      intro h0; subst h0
      have : (xs ++ sp).length = 0 := by omega
      exact hne (List.length_eq_zero_iff.1 this)
    refine ⟨.slice (some ⟨bk, off, none⟩) xs.length c, ?_, .of_rep ?_⟩
    · simp only [execOp, ho, hev, e2, Option.map_none, Option.map_some, Sem.run_bind, run_slc s1 s2 hb, Result.andThen_ok, Sem.run_pure]
      rw [if_neg hc0]
      simp [Addr.add]
    · exact .slx xs sp bk off sz' c vs (by simpa using hc) hI hsz' hh hrow
/-- A slice, with what is behind it. -/
theorem slg {x y : Operand} {ty t e sz by_ : Nat} {q : IntKind} {z : Int} {xs sp : List DV} (hz : z = ((xs ++ sp).length : Nat)) (hsp : sp ≠ []) (h : RL P C ops Q (k + 1) l ((t, .d (.sl (xs ++ sp))) :: env) H) (hty : sliceT P ty = some (e, sz, by_))
    (hg : grd ops env o true = true := by rfl) (ho : o.op = .slice ty x none (some y) none := by rfl) (hv : lk env x = .d (.slx xs sp) := by rfl) (hi : lk env y = .d (.i q z) := by rfl) (hd : o.dst = some t := by rfl) (hf : isOwn (get env t) = false := by rfl) (ht : okT C.nt t := by rfl) :
    RL P C ops Q k (o :: l) env H := by
  subst hz
  obtain ⟨h1, h2⟩ := lk_copy hv (by simp)
  obtain ⟨h3, h4⟩ := lk_copy hi (by simp)
  rw [← put_cons hf] at h
  obtain ⟨inf, s1, s2, s3, _, s5⟩ := sliceT_spec hty
  refine .go hg (.pure (by simp [ho]) hd ht (fun X a w I μ O _ hs => ?_) h)
  have hr := hs.look_d h1 h2
  have e2 := hs.look_i h3 h4
  generalize hev : a.eval x = u at hr
  cases hr with
  | slx _ _ bk off sz' c vs hc hI hsz' hh hrow =>
    have hb : (Instr.sliceBounds true xs.length c none (some (.int q ((xs ++ sp).length : Int))) none).run P w = .ok (0, (xs ++ sp).length, c) w := by
      have := run_bounds (P := P) (w := w) (isS := true) (len := xs.length) (cap := c) (lo := none) (hi := some (.int q ((xs ++ sp).length : Int))) (mx := none) (l := 0) (h := (xs ++ sp).length) (by omega) (by omega) (.inl ⟨rfl, rfl⟩) (.inr ⟨q, rfl⟩) (m := c) (.inl ⟨rfl, rfl⟩) (by simp; omega) (Int.le_refl _)
      rw [Int.toNat_natCast, Int.toNat_natCast] at this
      exact this
    have hne : xs ++ sp ≠ [] := by simp [hsp]
    have hc0 : c ≠ 0 := by
      intro h0; subst h0
      have := List.length_pos_iff.2 hsp
      omega
    refine ⟨.slice (some ⟨bk, off, none⟩) (xs ++ sp).length c, ?_, .of_rep ?_⟩
    · simp only [execOp, ho, hev, e2, Option.map_none, Option.map_some, Sem.run_bind, run_slc s1 s2 hb, Result.andThen_ok, Sem.run_pure]
      rw [if_neg hc0]
      simp [Addr.add]
    · exact .sl (xs ++ sp) bk off sz' c vs hne (by simpa using hc) hI hsz' hh hrow
end
end Go.FL
/-
  A FUNCTIONAL LOGIC, 31: append, and behind it the length of what was appended to.
-/
namespace Go.FL
open Go Go.RowKit

section
variable {P : Program} {C : Cx} {X : Snap} {ops : Array Oper} {Q : Exit → Env → Heap → Prop} {env env' : Env} {H H' : Heap} {a : Act} {w w' : World} {I I' : Nat → Prop} {μ μ' : List Nat} {O O' : Nat → Option Loc}
  {K : Env → Heap → Prop} {k : Nat} {l : List Oper}

theorem apl {o1 o2 o3 : Oper} {c c3 : Call} {y : Operand} {r s t t2 t3 ty ty3 e sz by_ len : Nat} {z : Value} {xs ys : List DV} (hb : len + ys.length ≤ 9223372036854775807 ∧ (len + ys.length) * by_ ≤ 140737488355328)
    (h : RL P C ops Q (k + 1 + 1 + 1) l (put (put (put (put env s .un) t (.own e (xs.take len ++ ys))) t2 .un) t3 (.d (.i .i64 (xs.length : Nat)))) H) (hsz : ∀ x ∈ ys, x.cells.length = sz) (hT : elemT P ty = some (e, sz, by_, z)) (hu : P.underlying ty3 = some (.slice (P.elem ty3)))
    (g1 : o1.guard = none := by rfl) (g2 : o2.guard = none := by rfl) (g3 : o3.guard = none := by rfl) (ho : o1.op = .call c := by rfl) (hc : c.callee = .builtin .append := by rfl)
    (hx : c.args = #[.tmp r, y] := by rfl) (hty : c.argTypes = #[ty, ty] := by rfl) (hv : get env r = .ref (.t s) 0 len := by rfl) (hp : get env s = .own e xs := by rfl) (hy : rd env H (lk env y) = some ys := by rfl) (hd : o1.dst = some t := by rfl) (ht : okT C.nt t := by rfl)
    (ho2 : o2.op = .move (.tmp s) := by rfl) (hd2 : o2.dst = some t2 := by rfl) (ht2 : okT C.nt t2 := by rfl)
    (ho3 : o3.op = .call c3 := by rfl) (hc3 : c3.callee = .builtin .len := by rfl) (hx3 : c3.args = #[.tmp t2] := by rfl) (hty3 : c3.argTypes = #[ty3] := by rfl) (hd3 : o3.dst = some t3 := by rfl) (ht3 : okT C.nt t3 := by rfl) (hst : s ≠ t := by decide) :
    RL P C ops Q k (o1 :: o2 :: o3 :: l) env H := by
  intro hl X a w I μ O h1 h2 h3 hs
  obtain ⟨e1, f1⟩ := drop_cons hl
  obtain ⟨e2, f2⟩ := drop_cons f1
  obtain ⟨e3, f3⟩ := drop_cons f2
  have e1' : ops[k]? = some o1 := by simpa using e1
  have e2' : ops[k + 1]? = some o2 := by simpa using e2
  have e3' : ops[k + 1 + 1]? = some o3 := by simpa using e3
  rw [List.length_cons, List.range'_succ, List.length_cons, List.range'_succ, List.length_cons, List.range'_succ]
  -- append
  obtain ⟨news, r1, r2⟩ := hs.rd hy hsz
  have hrs := hs.envr r
  rw [hv] at hrs
  obtain ⟨e', ys', A, n, cc, q1, q2, q3, q4⟩ := hrs
  have : AV.own e xs = .own e' ys' := hp.symm.trans q1
  cases this
  obtain ⟨k1, k2⟩ := hs.take s (by rw [hp]; rfl)
  rw [hp] at k2
  simp only [plVal, Option.some.injEq] at q2
  rw [q2] at k2
  obtain ⟨A', c', p1, p2, p3, p4⟩ := q4
  obtain ⟨rfl, rfl⟩ := p3 rfl
  have hn : n = xs.length := by
    obtain ⟨bs, hb1, _⟩ := k2
    exact (own_cap hb1).1
  have hlen : (xs.take len).length = len := by simp; omega
  obtain ⟨v', w', O', m1, m2, m3⟩ := k1.appended (ty := o1.type) hT (k2.prefix_ (m := len) (by omega)) r1 r2 (by rw [hlen]; simpa [maxLen] using hb.1) (by rw [hlen]; exact hb.2)
  have hex1 : (execOp a.eval o1).run P w = .ok (.value v') w' := exec_append ho hc hx hty (by rw [show a.eval (.tmp r) = _ from p1]; exact m1)
  simp only [wpOpsIn, e1', Region.wanted, g1, if_true]
  refine ⟨fun _ _ => trivial, ?_⟩
  rw [Oper.semAt_eq _ _ _ (by simp [ho]), hex1, Oper.uponIn_value, hd]
  have s1 := m2.put_hand (by rw [h1]; exact ht) m3
  -- move
  have hval2 : (a.put (some t) v').eval (.tmp s) = .slice A' n c' := by
    rw [← q2]
    show (a.put (some t) v').tmps.getD s undef = a.tmps.getD s undef
    exact tmps_put_ne v' hst
  simp only [e2', g2, if_true]
  refine ⟨fun _ _ => trivial, ?_⟩
  rw [Oper.semAt_eq _ _ _ (by simp [ho2])]
  have hex2 : (execOp (a.put (some t) v').eval o2).run P w' = .ok (.value (.slice A' n c')) w' := by
    simp only [execOp, ho2, hval2, Sem.run_pure]
  rw [hex2, Oper.uponIn_value, hd2]
  have s2 := s1.put_un t2 (by rw [h1]; exact ht2) (.slice A' n c')
  -- len
  have hval3 : ((a.put (some t) v').put (some t2) (.slice A' n c')).eval (.tmp t2) = .slice A' n c' := by
    have hlt : t2 < (a.put (some t) v').tmps.size := by rw [s1.nt, h1]; exact okT_lt ht2
    exact tmps_put_same _ hlt
  simp only [e3', g3, if_true]
  refine ⟨fun _ _ => trivial, ?_⟩
  rw [Oper.semAt_eq _ _ _ (by simp [ho3])]
  have hex3 : (execOp ((a.put (some t) v').put (some t2) (.slice A' n c')).eval o3).run P w' = .ok (.value (.int .i64 (xs.length : Nat))) w' := by
    rw [← hn]
    simp [execOp, ho3, resolve, hc3, hx3, hty3, invoke, builtin, hval3, run_len_slice w' ty3 o3.type A' n c' hu, goInt]
  rw [hex3, Oper.uponIn_value, hd3]
  have s3 := s2.put_hand (t := t3) (av := .d (.i .i64 (xs.length : Nat))) (v := .int .i64 (xs.length : Nat)) (by rw [h1]; exact ht3) ⟨[], .d (.i _ _), List.nodup_nil, by simp⟩
  exact h f3 X _ _ _ _ _ h1 h2 h3 s3
end
end Go.FL
/-
  The laws' own and kept: limbs with room behind them.
-/
namespace Go.FL
open Go Go.Proofs

theorem own_fn (a : List Nat) : Fn Try.prog 13 [.sl (L a)] (.d (.slx (L (a.take 40)) (L [77, 78]))) := by
  have la : (a.take 40).length ≤ 40 := by rw [List.length_take]; omega
  have fw := few_fn a
  generalize a.take 40 = x at *
  refine Fn.of (rs := [.tmp 2]) (nt := 14) Try.func13 rfl rfl rfl (by simp) rfl ?_
  refine .seq ?_
  refine .region ?_
  refine asn ?_
  refine rn ?_
  refine .seq ?_
  refine .region ?_
  refine bsl (ds := []) ?_ ?_ e32
  · simp
  refine mvd ?_
  refine cl (xs := [.sl (L a)]) ?_ fw Try.call16
  refine apo ?_ ?_ (L_sz1 x) e32
  · rw [L_length]; simp; omega
  rw [List.nil_append]
  refine aso ?_
  refine rn ?_
  refine .gh (Gh.keep [3] rfl) ?_
  refine .seq ?_
  refine .region ?_
  refine mvo ?_
  refine bsl ?_ ?_ e32
  · simp [DV.flat, DV.cells, DV.leaf]
  refine apl ?_ ?_ (L_sz1 [77, 78]) e32 l32
  · simp [L_length]; omega
  refine RL.gh (Gh.keep [10, 12] rfl) ?_
  refine fz (p := .t 10) ?_
  refine RL.gh (Gh.keep [10, 12] rfl) ?_
  refine slk (xs := (L x).take (L x).length) (sp := L [77, 78]) (z := ((L x).length : Nat)) ?_ (by simp [L]) ?_ s32
  · rw [List.take_length]
  refine asd ?_
  refine rn ?_
  refine .ret ?_
  exact ⟨by rw [List.take_length]; rfl, rfl⟩
theorem kept_fn {x b : List Nat} (hx : x = b.take 40) : Fn Try.prog 21 [.slx (L x) (L [77, 78]), .sl (L b)] (.d (.b true)) := by
  have lx : x.length ≤ 40 := by rw [hx, List.length_take]; omega
  have fw := few_fn b
  rw [← hx] at fw
  have fs := Same_fn x x (by omega)
  rw [decide_eq_true rfl] at fs
  have h77 : (x ++ [77, 78])[x.length]? = some 77 := by simp
  have h78 : (x ++ [77, 78])[x.length + 1]? = some 78 := by simp
  refine Fn.of (rs := [.tmp 4]) (nt := 32) Try.func21 rfl rfl rfl (by simp) rfl ?_
  refine .seq ?_
  refine .region ?_
  refine asd ?_
  refine rn ?_
  refine .seq ?_
  refine .region ?_
  refine mvd ?_
  refine mvd ?_
  refine RL.gh (Gh.slx (t := 7) rfl) ?_
  refine ln ?_ (L_sz _) l32
  refine ad ((x.length + 2 : Nat) : Int) ?_ ?_
  · rw [L_length]; omega
  refine slg (xs := L x) (sp := L [77, 78]) (z := ((x.length + 2 : Nat) : Int)) ?_ (by simp [L]) ?_ s32
  · simp [L_length]
  rw [← L_append]
  refine asd ?_
  refine rn ?_
  refine .gh (Gh.keep [0, 1, 5] rfl) ?_
  refine .seq ?_
  refine .region ?_
  refine mvd ?_
  refine RL.gh (Gh.slx (t := 11) rfl) ?_
  refine mvd ?_
  refine cl (xs := [.sl (L b)]) ?_ fw Try.call16
  refine cl (xs := [.sl (L x), .sl (L x)]) ?_ fs Try.call18
  refine mvd ?_
  refine mvd ?_
  refine mvd ?_
  refine RL.gh (Gh.slx (t := 17) rfl) ?_
  refine ln ?_ (L_sz _) l32
  refine ix (z := ((L x).length : Nat)) x.length ?_ (by rw [L_length]) (L_at h77) rfl s32
  refine ldp ?_ a32
  refine bi ?_
  refine pkd ?_
  refine mvd ?_
  refine mvd ?_
  refine mvd ?_
  refine RL.gh (Gh.slx (t := 25) rfl) ?_
  refine ln ?_ (L_sz _) l32
  refine ad ((x.length + 1 : Nat) : Int) ?_ ?_
  · rw [L_length]; omega
  refine ix (x.length + 1) ?_ rfl (L_at h78) rfl s32
  refine ldp ?_ a32
  refine bi ?_
  refine pkd ?_
  refine asd ?_
  refine rn ?_
  refine .ret ?_
  exact ⟨rfl, rfl⟩
end Go.FL
/-
  The law NatSums: sums, products and differences are exact.
-/
namespace Go.FL
open Go Go.Proofs

theorem same_fn {n : Nat} {k : Nat} (h : n < 4294967296 ^ k) (hk : k ≤ 1048576) : Fn Try.prog 18 [.sl (L (digs n)), .sl (L (digs n))] (.d (.b true)) := by
  have := Same_fn (digs n) (digs n) (Nat.le_trans (digs_len h) hk)
  rwa [decide_eq_true rfl] at this
theorem NatSums_fn {a b c : List Nat} (ha : Ok a) (hb : Ok b) (hc : Ok c) : Fn Try.prog 12 [.sl (L a), .sl (L b), .sl (L c)] (.d (.b true)) := by
  have w1 := own_fn a
  have w2 := own_fn b
  have w3 := own_fn c
  have v1 := few_fn a
  have v2 := few_fn b
  have v3 := few_fn c
  have k1 := kept_fn (x := a.take 40) (b := a) rfl
  have k2 := kept_fn (x := b.take 40) (b := b) rfl
  have k3 := kept_fn (x := c.take 40) (b := c) rfl
  have oa := ha.take 40
  have ob := hb.take 40
  have oc := hc.take 40
  have la : (a.take 40).length ≤ 40 := by rw [List.length_take]; omega
  have lb : (b.take 40).length ≤ 40 := by rw [List.length_take]; omega
  have lc : (c.take 40).length ≤ 40 := by rw [List.length_take]; omega
  generalize a.take 40 = x at *
  generalize b.take 40 = y at *
  generalize c.take 40 = z at *
  have va : val x < 4294967296 ^ 40 := Nat.lt_of_lt_of_le (val_lt oa) (Nat.pow_le_pow_right (by decide) la)
  have vb : val y < 4294967296 ^ 40 := Nat.lt_of_lt_of_le (val_lt ob) (Nat.pow_le_pow_right (by decide) lb)
  have vc : val z < 4294967296 ^ 40 := Nat.lt_of_lt_of_le (val_lt oc) (Nat.pow_le_pow_right (by decide) lc)
  have f1 := sum_fn (M := 40) (ls := [x, y, z]) (by simp [oa, ob, oc]) (by simp [la, lb, lc]) (by simp) (by decide)
  have f2 := refSum_fn (M := 40) (ls := [x, y, z]) (by simp [oa, ob, oc]) (by simp [la, lb, lc]) (by simp) (by decide)
  have hs : ([x, y, z].map val).sum < 4294967296 ^ 41 := by
    rw [pow_split]
    simp only [List.map_cons, List.map_nil, List.sum_cons, List.sum_nil]
    omega
  have f3 := same_fn hs (by decide)
  generalize ([x, y, z].map val).sum = n1 at *
  have g1 := prods_fn (M := 40) (ls := [x, y, z]) (by simp [oa, ob, oc]) (by simp [la, lb, lc]) (by simp) (by decide)
  have g2 := refProds_fn (M := 40) (ls := [x, y, z]) (by simp [oa, ob, oc]) (by simp [la, lb, lc]) (by simp) (by decide)
  have hp := prodF_lt (M := 40) [x, y, z] 1 1 (by simp only [List.mem_cons, List.not_mem_nil, or_false]; rintro _ (rfl | rfl | rfl) <;> assumption) (by decide)
  have g3 := same_fn hp (by simp)
  generalize prodF [x, y, z] 1 = n2 at *
  have m1 := Minus_fn oa ob (by omega) (by omega)
  have m2 := refMinus_fn oa ob (by omega) (by omega)
  have hm : minN (val x) (val y) < 4294967296 ^ 40 := by unfold minN; split <;> omega
  have m3 := same_fn hm (by decide)
  generalize minN (val x) (val y) = n3 at *
  generalize decide (val y ≤ val x) = ok at *
  have e1 := sum_fn (M := 1) (ls := []) (by simp) (by simp) (by simp) (by decide)
  have e2' := prods_fn (M := 1) (ls := []) (by simp) (by simp) (by simp) (by decide)
  have one : digs 1 = [1] := one_limb (n := 1) (by decide) (by decide)
  rw [show ([] : List (List Nat)).map val = [] from rfl, List.sum_nil, digs_zero] at e1
  rw [show prodF [] 1 = 1 from rfl, one] at e2'
  have e3 := Same_fn [1] [1] (by simp)
  rw [decide_eq_true rfl] at e3
  clear va vb vc hs hp hm
  refine Fn.of (rs := [.tmp 6]) (nt := 100) Try.func12 rfl rfl rfl (by simp) rfl ?_
  refine .seq ?_
  refine .region ?_
  refine asd ?_
  refine rn ?_
  refine .seq ?_
  refine .region ?_
  refine mvd ?_
  refine cl (xs := [.sl (L a)]) ?_ w1 Try.call13
  refine mvd ?_
  refine cl (xs := [.sl (L b)]) ?_ w2 Try.call13
  refine mvd ?_
  refine cl (xs := [.sl (L c)]) ?_ w3 Try.call13
  refine asd ?_
  refine asd ?_
  refine asd ?_
  refine rn ?_
  refine .gh (Gh.keep [0, 1, 2, 7, 8, 9] rfl) ?_
  refine .seq ?_
  refine .region ?_
  refine mvd ?_
  refine cl (xs := [.sl (L a)]) ?_ v1 Try.call16
  refine mvd ?_
  refine cl (xs := [.sl (L b)]) ?_ v2 Try.call16
  refine mvd ?_
  refine cl (xs := [.sl (L c)]) ?_ v3 Try.call16
  refine bsl ?_ ?_ e2
  · simp [DV.flat, DV.cells, DV.leaf]
  refine aso ?_
  refine rn ?_
  refine .gh (Gh.frz (p := .t 10) rfl (fun _ _ h => by cases h)) ?_
  refine .gh (Gh.keep [0, 1, 2, 7, 8, 9, 10] rfl) ?_
  refine .seq ?_
  refine .region ?_
  refine mvd ?_
  refine RL.gh (Gh.slx (t := 29) rfl) ?_
  refine mvd ?_
  refine RL.gh (Gh.slx (t := 30) rfl) ?_
  refine cl (xs := [.sl (L x), .sl (L y)]) ?_ m1 Try.call42
  refine mvt ?_
  refine ex ?_
  refine ex ?_
  refine asd ?_
  refine asd ?_
  refine rn ?_
  refine .gh (Gh.keep [0, 1, 2, 7, 8, 9, 10, 11, 12] rfl) ?_
  refine .seq ?_
  refine .region ?_
  refine mvd ?_
  refine cl (xs := [.sl (L a)]) ?_ v1 Try.call16
  refine mvd ?_
  refine cl (xs := [.sl (L b)]) ?_ v2 Try.call16
  refine cl (xs := [.sl (L x), .sl (L y)]) ?_ m2 Try.call43
  refine mvt ?_
  refine ex ?_
  refine ex ?_
  refine asd ?_
  refine asd ?_
  refine rn ?_
  refine .gh (Gh.keep [0, 1, 2, 7, 8, 9, 10, 11, 12, 13, 14] rfl) ?_
  refine .seq ?_
  refine .seq ?_
  refine .region ?_
  refine cl (xs := []) ?_ live_fn Try.call17
  refine nt_ ?_
  refine mvd ?_
  refine mvd ?_
  refine RL.gh (Gh.slx (t := 45) rfl) ?_
  refine mvd ?_
  refine RL.gh (Gh.slx (t := 46) rfl) ?_
  refine mvd ?_
  refine RL.gh (Gh.slx (t := 47) rfl) ?_
  refine bsl ?_ ?_ e2
  · simp [DV.flat, DV.cells, DV.leaf]
  refine fz (p := .t 48) ?_
  refine cl (xs := [.sl (LL [x, y, z])]) ?_ f1 Try.call41
  refine mvd ?_
  refine cl (xs := [.sl (LL [x, y, z])]) ?_ f2 Try.call44
  refine cl (xs := [.sl (L (digs n1)), .sl (L (digs n1))]) ?_ f3 Try.call18
  refine nt_ ?_
  refine pkd ?_
  refine mvd ?_
  refine mvd ?_
  refine RL.gh (Gh.slx (t := 56) rfl) ?_
  refine mvd ?_
  refine RL.gh (Gh.slx (t := 57) rfl) ?_
  refine mvd ?_
  refine RL.gh (Gh.slx (t := 58) rfl) ?_
  refine bsl ?_ ?_ e2
  · simp [DV.flat, DV.cells, DV.leaf]
  refine fz (p := .t 59) ?_
  refine cl (xs := [.sl (LL [x, y, z])]) ?_ g1 Try.call34
  refine mvd ?_
  refine cl (xs := [.sl (LL [x, y, z])]) ?_ g2 Try.call45
  refine cl (xs := [.sl (L (digs n2)), .sl (L (digs n2))]) ?_ g3 Try.call18
  refine nt_ ?_
  refine pkd ?_
  refine mvd ?_
  refine mvd ?_
  refine mvd ?_
  refine cl (xs := [.sl (L (digs n3)), .sl (L (digs n3))]) ?_ m3 Try.call18
  refine nt_ ?_
  refine pkd ?_
  refine mvd ?_
  refine mvd ?_
  refine mvd ?_
  refine bbn ?_ (.inr rfl) bo
  rw [if_neg (by decide), bne_self_eq_false]
  refine pkd ?_
  refine rn ?_
  refine cndf ?_
  refine .skip ?_
  show AW _ _ _ _ _ _
  refine .gh (Gh.keep [0, 1, 2, 7, 8, 9] rfl) ?_
  refine .seq ?_
  refine .region ?_
  refine cl (xs := [.sl (LL [])]) ?_ e1 Try.call41
  refine ln ?_ (L_sz []) l32
  refine bi ?_
  refine mvd ?_
  refine cl (xs := [.sl (LL [])]) ?_ e2' Try.call34
  refine bsl ?_ ?_ e32
  · simp [DV.flat, DV.cells, DV.leaf]
  refine fz (p := .t 82) ?_
  refine cl (xs := [.sl (L [1]), .sl (L [1])]) ?_ e3 Try.call18
  refine pkd ?_
  refine mvd ?_
  refine mvd ?_
  refine mvd ?_
  refine cl (xs := [.slx (L x) (L [77, 78]), .sl (L a)]) ?_ k1 Try.call21
  refine pkd ?_
  refine mvd ?_
  refine mvd ?_
  refine mvd ?_
  refine cl (xs := [.slx (L y) (L [77, 78]), .sl (L b)]) ?_ k2 Try.call21
  refine pkd ?_
  refine mvd ?_
  refine mvd ?_
  refine mvd ?_
  refine cl (xs := [.slx (L z) (L [77, 78]), .sl (L c)]) ?_ k3 Try.call21
  refine pkd ?_
  refine asd ?_
  refine rn ?_
  refine .ret ?_
  exact ⟨rfl, rfl⟩
end Go.FL
/-
  A FUNCTIONAL LOGIC, 32: a slice of the call's own is assigned where the order is drawn: it is looked at first, and taken over behind.
-/
namespace Go.FL
open Go Go.RowKit

section
variable {P : Program} {C : Cx} {X : Snap} {o : Oper} {ops : Array Oper} {Q : Exit → Env → Heap → Prop} {env env' : Env} {H H' : Heap} {a : Act} {w w' : World} {I I' : Nat → Prop} {μ μ' : List Nat} {O O' : Nat → Option Loc}

theorem vaso {s : Nat} {e : TypeId} {xs : List DV} (ho : o.op = .assign (.tmp s) := by rfl) (hv : get env s = .own e xs := by rfl) : VOK P C o env H (.ref (.t s) 0 xs.length) :=
  .rel (by simp [ho]) fun X a w I μ O _ hs => ⟨a.tmps.getD s undef, by simp [execOp, ho, Act.eval], rfl, RefRel.self (p := .t s) hs hv rfl⟩
theorem Gh.swap {s t : Nat} {e : TypeId} {xs : List DV} (h : get env t = .ref (.t s) 0 xs.length) (hp : get env s = .own e xs) (h0 : isOwn (get (put env s .un) t) = false) : Gh P C env H ((t, .own e xs) :: put env s .un) H := fun X a w I μ O _ _ _ hs => by
  have ht := hs.envr t
  rw [h] at ht
  obtain ⟨e', ys, A, n, c, q1, q2, q3, A', c', p1, p2, p3, p4⟩ := ht
  have : AV.own e xs = .own e' ys := hp.symm.trans q1
  cases this
  obtain ⟨rfl, rfl⟩ := p3 rfl
  simp only [plVal, Option.some.injEq] at q2
  obtain ⟨k1, bs, k2, k3, k4⟩ := hs.take s (by rw [hp]; rfl)
  rw [hp, q2] at k2
  have hn : n = xs.length := (own_cap k2).1
  subst hn
  rw [← p1] at k2
  exact ⟨I, _, k1.adopt k2 k3 k4 h0⟩
end
end Go.FL
/-
  A FUNCTIONAL LOGIC, 33: an operation that is not wanted, whose result guards others: these are not wanted either.
-/
namespace Go.FL
open Go Go.RowKit

section
variable {P : Program} {C : Cx} {X : Snap} {o : Oper} {ops : Array Oper} {Q : Exit → Env → Heap → Prop} {env env' : Env} {H H' : Heap} {k : Nat} {l : List Oper} {a : Act} {w w' : World} {I I' : Nat → Prop} {μ μ' : List Nat} {O O' : Nat → Option Loc}

theorem Sim.yields_not (hs : Sim P X env H a w I μ O) {j d : Nat} {oj : Oper} (hj : ops[j]? = some oj) (hd : oj.dst = some d) (hv : get env d = .tup []) : yielded ops a.tmps j = none := by
  have this := hs.envr d
  rw [hv] at this
  obtain ⟨bs, hr, _⟩ := this
  have he : a.tmps.getD d undef = .tuple #[] := by
    generalize a.tmps.getD d undef = v at hr
    cases hr with
    | tup h => cases h; rfl
  simp only [yielded, hj, Option.bind_some, hd]
  rw [Array.getD_eq_getD_getElem?] at he
  cases hx : a.tmps[d]? with
  | none => rfl
  | some v => rw [hx] at he; simp at he; rw [he]
/-- Not wanted; what stands in its place is remembered. -/
theorem RL.guard_fu {j d t : Nat} {oj : Oper} {x y : Bool} (hg : o.guard = some (j, x)) (hj : ops[j]? = some oj) (hd : oj.dst = some d) (hv : get env d = .d (.b y)) (hxy : y ≠ x) (ht : o.dst = some t) (hto : okT C.nt t)
    (h : RL P C ops Q (k + 1) l (put env t (.tup [])) H) : RL P C ops Q k (o :: l) env H := by
  intro hl X a w I μ O h1 h2 h3 hs
  obtain ⟨e1, e2⟩ := drop_cons hl
  rw [List.length_cons, List.range'_succ]
  have e1' : ops[k]? = some o := by simpa using e1
  have : (some y == some x) = false := by simp [hxy]
  simp only [wpOpsIn, e1', Region.wanted, hg, hs.yields hj hd hv, this, Bool.false_eq_true, if_false]
  refine ⟨fun _ _ => trivial, ?_⟩
  rw [ht]
  exact h e2 X _ w I μ _ h1 h2 h3 (hs.put_hand (by rw [h1]; exact hto) (av := .tup []) (v := undef) ⟨[], .tup .nil, List.nodup_nil, by simp⟩)
/-- Not wanted, for what guards it was not. -/
theorem RL.guard_n {j d t : Nat} {oj : Oper} {x : Bool} (hg : o.guard = some (j, x)) (hj : ops[j]? = some oj) (hd : oj.dst = some d) (hv : get env d = .tup []) (ht : o.dst = some t) (hto : okT C.nt t)
    (h : RL P C ops Q (k + 1) l (put env t (.tup [])) H) : RL P C ops Q k (o :: l) env H := by
  intro hl X a w I μ O h1 h2 h3 hs
  obtain ⟨e1, e2⟩ := drop_cons hl
  rw [List.length_cons, List.range'_succ]
  have e1' : ops[k]? = some o := by simpa using e1
  have : ((none : Option Bool) == some x) = false := rfl
  simp only [wpOpsIn, e1', Region.wanted, hg, hs.yields_not hj hd hv, this, Bool.false_eq_true, if_false]
  refine ⟨fun _ _ => trivial, ?_⟩
  rw [ht]
  exact h e2 X _ w I μ _ h1 h2 h3 (hs.put_hand (by rw [h1]; exact hto) (av := .tup []) (v := undef) ⟨[], .tup .nil, List.nodup_nil, by simp⟩)
theorem gfu {t : Nat} (h : RL P C ops Q (k + 1) l ((t, .tup []) :: env) H) (hg : grd ops env o false = true := by rfl) (hd : o.dst = some t := by rfl) (hf : isOwn (get env t) = false := by rfl) (ht : okT C.nt t := by rfl) : RL P C ops Q k (o :: l) env H := by
  rw [← put_cons hf] at h
  unfold grd at hg
  split at hg
  · cases hg
  · rename_i j want h1
    split at hg
    · cases hg
    · rename_i oj h2
      split at hg
      · cases hg
      · rename_i d h3
        split at hg
        · rename_i x h4
          simp at hg
          exact .guard_fu h1 h2 h3 h4 hg hd ht h
        · cases hg
def grdN (ops : Array Oper) (env : Env) (o : Oper) : Bool :=
  match o.guard with
  | none => false
  | some (j, _) => match ops[j]? with
    | none => false
    | some oj => match oj.dst with
      | none => false
      | some d => match get env d with
        | .tup [] => true
        | _ => false
theorem gfn {t : Nat} (h : RL P C ops Q (k + 1) l ((t, .tup []) :: env) H) (hg : grdN ops env o = true := by rfl) (hd : o.dst = some t := by rfl) (hf : isOwn (get env t) = false := by rfl) (ht : okT C.nt t := by rfl) : RL P C ops Q k (o :: l) env H := by
  rw [← put_cons hf] at h
  unfold grdN at hg
  split at hg
  · cases hg
  · rename_i j want h1
    split at hg
    · cases hg
    · rename_i oj h2
      split at hg
      · cases hg
      · rename_i d h3
        split at hg
        · rename_i h4
          exact .guard_n h1 h2 h3 h4 hd ht h
        · cases hg
end
end Go.FL
/-
  glyphref01: Right, Small.
-/
namespace Go.FL
open Go Go.Proofs

theorem right_last {b : List Nat} {x : Nat} (h : Ok (b ++ [x])) : (digs (val (b ++ [x])) = b ++ [x]) ↔ x ≠ 0 := by
  constructor
  · intro he h0
    subst h0
    rw [← cutL_val h, cutL_zero] at he
    have hb : Ok b := fun y hy => h y (by simp [hy])
    rw [cutL_val hb] at he
    have h1 := digs_len_le hb
    rw [he] at h1
    simp at h1
    omega
  · intro h0
    rw [← cutL_val h, cutL_pos _ h0]
theorem refRight_fn {a : List Nat} (h : Ok a) (hl : a.length ≤ 1048576) : Fn Try.prog 25 [.sl (L a)] (.d (.b (decide (digs (val a) = a)))) := by
  refine Fn.of (rs := [.tmp 2]) (nt := 15) Try.func25 rfl rfl rfl (by simp) rfl ?_
  refine .seq ?_
  refine .region ?_
  refine asd ?_
  refine rn ?_
  refine .seq ?_
  refine .region ?_
  refine mvd ?_
  refine ln ?_ (L_sz _) l32
  refine bi ?_
  refine mvd ?_
  rcases List.eq_nil_or_concat a with rfl | ⟨b, x, rfl⟩
  · refine gf ?_
    refine gf ?_
    refine gf ?_
    refine gf ?_
    refine gf ?_
    refine gf ?_
    refine gf ?_
    refine pkd ?_
    refine asd ?_
    refine rn ?_
    refine .ret ?_
    exact ⟨by rw [decide_eq_true (show digs (val []) = [] by rw [val, digs_zero])]; rfl, rfl⟩
  · rw [List.concat_eq_append] at *
    have hll : (b ++ [x]).length = b.length + 1 := by simp
    rw [decide_eq_false (show ¬ ((L (b ++ [x])).length : Int) = 0 by rw [L_length]; omega)]
    refine mvd ?_
    refine mvd ?_
    refine ln ?_ (L_sz _) l32
    refine su (b.length : Int) ?_ ?_
    · rw [L_length]; omega
    refine ix b.length ?_ rfl (L_at (xs := b ++ [x]) (n := x) (by simp)) rfl s32
    refine ldp ?_ a32
    refine bi ?_
    refine pkd ?_
    refine asd ?_
    refine rn ?_
    refine .ret ?_
    refine ⟨?_, rfl⟩
    show AV.d (.b (!decide ((x : Int) = 0))) = _
    congr 2
    rw [decide_eq_decide.2 (right_last h)]
    by_cases h0 : x = 0
    · subst h0; rfl
    · rw [decide_eq_true h0, decide_eq_false (by omega)]; rfl
theorem digs_two_lt {n : Nat} (h : (digs n).length ≤ 2) : n < 18446744073709551616 := by
  have h1 := val_lt (digs_ok n)
  rw [val_digs] at h1
  exact Nat.lt_of_lt_of_le h1 (Nat.pow_le_pow_right (n := 4294967296) (by decide) h)
theorem refSmall_fn {a : List Nat} (h : Ok a) (hl : a.length ≤ 1048576) : Fn Try.prog 23 [.sl (L a)] (.tup [.d (.i .i64 (smallN a : Nat)), .d (.b (decide (bitsN (val a) ≤ 63)))]) := by
  have hok := digs_ok (val a)
  have hvd := val_digs (val a)
  refine Fn.of (rs := [.tmp 2, .tmp 3]) (nt := 39) Try.func23 rfl rfl rfl (by simp) rfl ?_
  refine .seq ?_
  refine .region ?_
  refine asd ?_
  refine asd ?_
  refine rn ?_
  refine .seq ?_
  refine .region ?_
  refine mvd ?_
  refine cl (xs := [.sl (L a)]) ?_ (refTrim_fn h (by omega)) Try.call27
  refine aso ?_
  refine rn ?_
  refine .gh (Gh.frz (p := .t 4) rfl (fun _ _ h => by cases h)) ?_
  refine .gh (Gh.keep [4] rfl) ?_
  refine .mid (fun e H' => H' = [] ∧ val a < 9223372036854775808 ∧ (digs (val a)).length ≤ 2 ∧ e = [(4, .d (.sl (L (digs (val a)))))]) ?_ ?_
  · have hno : 9223372036854775808 ≤ val a → smallN a = 0 ∧ decide (bitsN (val a) ≤ 63) = false := fun hge => by
      have : ¬ bitsN (val a) ≤ 63 := fun hb => by
        have := bitsN_iff.1 hb
        omega
      exact ⟨by rw [smallN, if_neg this], decide_eq_false this⟩
    have hlt2 := @digs_two_lt (val a)
    have hdl : val a < 4294967296 ^ 2 → (digs (val a)).length ≤ 2 := digs_len
    generalize digs (val a) = xs at *
    refine .seq ?_
    refine .region ?_
    refine mvd ?_
    refine ln ?_ (L_sz _) l32
    refine bi ?_
    refine mvd ?_
    by_cases h2 : 2 < xs.length
    · obtain ⟨e1, e2⟩ := hno (by omega)
      rw [decide_eq_true (show (2 : Int) < ((L xs).length : Nat) by rw [L_length]; omega)]
      refine gf ?_
      refine gf ?_
      refine gf ?_
      refine gfu ?_
      refine gfn ?_
      refine gfn ?_
      refine gfn ?_
      refine gfn ?_
      refine gf ?_
      refine pkd ?_
      refine rn ?_
      refine cndt ?_
      refine .seq ?_
      refine .region ?_
      refine asd ?_
      refine asd ?_
      refine rn ?_
      refine .ret ?_
      exact ⟨by decide, by rw [e1, e2]; rfl, rfl, rfl⟩
    · rw [decide_eq_false (show ¬ (2 : Int) < ((L xs).length : Nat) by rw [L_length]; omega)]
      refine mvd ?_
      refine ln ?_ (L_sz _) l32
      refine bi ?_
      refine mvd ?_
      by_cases h3 : xs.length = 2
      · rw [decide_eq_true (show ((L xs).length : Nat) = (2 : Int) by rw [L_length]; omega)]
        match xs, h3 with
        | [x, y], _ =>
          have hxl := hok.head
          have hyl := hok.tail.head
          have hve : val a = x + 4294967296 * y := by rw [← hvd]; simp [val]
          refine mvd ?_
          refine ix 1 ?_ rfl (L_at (xs := [x, y]) (n := y) rfl) rfl s32
          refine ldp ?_ a32
          refine bi ?_
          refine pkd ?_
          refine pkd ?_
          refine rn ?_
          by_cases h4 : 2147483648 ≤ y
          · obtain ⟨e1, e2⟩ := hno (by omega)
            rw [decide_eq_true (show (2147483648 : Int) ≤ (y : Int) by omega)]
            refine cndt ?_
            refine .seq ?_
            refine .region ?_
            refine asd ?_
            refine asd ?_
            refine rn ?_
            refine .ret ?_
            exact ⟨by decide, by rw [e1, e2]; rfl, rfl, rfl⟩
          · rw [decide_eq_false (show ¬ (2147483648 : Int) ≤ (y : Int) by omega)]
            refine cndf ?_
            refine .gh (Gh.keep [4] rfl) ?_
            refine .skip ?_
            exact ⟨rfl, by omega, by simp, rfl⟩
      · rw [decide_eq_false (show ¬ ((L xs).length : Nat) = (2 : Int) by rw [L_length]; omega)]
        refine gf ?_
        refine gf ?_
        refine gf ?_
        refine gf ?_
        refine pkd ?_
        refine pkd ?_
        refine rn ?_
        refine cndf ?_
        refine .gh (Gh.keep [4] rfl) ?_
        refine .skip ?_
        refine ⟨rfl, ?_, by omega, rfl⟩
        rw [← hvd]
        exact Nat.lt_of_lt_of_le (val_lt hok) (Nat.le_trans (Nat.pow_le_pow_right (by decide) (show xs.length ≤ 1 by omega)) (by decide))
  rintro _ _ ⟨rfl, h63, hlen, rfl⟩
  have hb : bitsN (val a) ≤ 63 := bitsN_iff.2 h63
  have hvs := val_small hok hlen (by rw [hvd]; exact h63)
  generalize digs (val a) = xs at *
  refine .seq ?_
  refine .region ?_
  refine asd ?_
  refine rn ?_
  refine .mid (fun e H' => H' = [] ∧ e = [(5, .d (.i .i64 ((val a : Nat) : Int)))]) ?_ ?_
  · refine .seq ?_
    refine .region ?_
    refine mvd ?_
    refine ln ?_ (L_sz _) l32
    refine su ((xs.length : Int) - 1) ?_ ?_
    · rw [L_length]; omega
    refine asd ?_
    refine rn ?_
    refine .block ?_
    refine .loop (.gh (Gh.keep [4, 5, 6] rfl) ?_)
    refine AL.cast (env' := [(4, .d (.sl (L xs))), (5, .d (.i .i64 ((val (xs.drop xs.length) : Nat) : Int))), (6, .d (.i .i64 ((xs.length : Int) - 1)))]) (by rw [List.drop_length]; rfl) ?_
    refine AL.ind (σ := Nat) (m := fun i => i) (e := fun i => [(4, .d (.sl (L xs))), (5, .d (.i .i64 ((val (xs.drop i) : Nat) : Int))), (6, .d (.i .i64 ((i : Int) - 1)))]) (h := fun _ => [])
      (I := fun i => i ≤ xs.length) ?_ xs.length (Nat.le_refl _)
    intro i h1 ih
    refine .seq ?_
    refine .seq ?_
    refine .region ?_
    refine mvd ?_
    refine bi ?_
    refine rn ?_
    cases i with
    | zero =>
      rw [decide_eq_false (show ¬ (0 : Int) ≤ ((0 : Nat) : Int) - 1 by omega)]
      refine cndf ?_
      refine .gh (Gh.keep [5] rfl) ?_
      refine .exit ?_
      rw [List.drop_zero, hvd]
      exact ⟨rfl, rfl⟩
    | succ i =>
      have hj : i < xs.length := by omega
      have hx : xs[i]? = some xs[i] := List.getElem?_eq_getElem hj
      have hva := val_at hj
      have hxl := hok.at hx
      have hsm := hvs i
      generalize xs[i] = x at *
      generalize val (xs.drop (i + 1)) = n at *
      have ih' := ih i (by omega) (by omega)
      rw [hva] at ih'
      rw [decide_eq_true (show (0 : Int) ≤ ((i + 1 : Nat) : Int) - 1 by omega)]
      refine cndt ?_
      refine .skip ?_
      show AW _ _ _ _ _ _
      refine .seq ?_
      refine .block ?_
      refine .region ?_
      refine mvd ?_
      refine bie (.i .i64 ((n * 4294967296 : Nat) : Int)) ?_ ?_
      · refine ⟨by decide, ?_⟩
        have : IntKind.i64.wrap ((n : Int) * 4294967296) = ((n * 4294967296 : Nat) : Int) := by
          rw [wraps_i64 _ (by omega) (by omega)]; omega
        rw [← this]; simp [IntKind.bits]
      refine mvd ?_
      refine mvd ?_
      refine ix (z := ((i + 1 : Nat) : Int) - 1) i ?_ (by omega) (L_at hx) rfl s32
      refine ldp ?_ a32
      refine cve (x : Int) (wraps_i64 _ (by omega) (by omega)) ?_ u32 i64
      refine bie (.i .i64 ((x + 4294967296 * n : Nat) : Int)) ?_ ?_
      · exact ⟨trivial, by rw [i64_join hsm hxl, show n * 4294967296 + x = x + 4294967296 * n by omega]⟩
      refine asd ?_
      refine .nil ?_
      show AW _ _ _ _ _ _
      refine .region ?_
      refine mvd ?_
      refine su ((i : Int) - 1) ?_ ?_
      · omega
      refine asd ?_
      refine rn ?_
      refine .gh (Gh.keep [4, 5, 6] rfl) ?_
      exact ih'
  rintro _ _ ⟨rfl, rfl⟩
  refine .seq ?_
  refine .region ?_
  refine mvd ?_
  refine asd ?_
  refine asd ?_
  refine rn ?_
  refine .ret ?_
  exact ⟨by decide, by rw [decide_eq_true hb, smallN, if_pos hb]; rfl, rfl, rfl⟩
end Go.FL
/-
  glyphref01: Bits, bit, twice.
-/
namespace Go.FL
open Go Go.Proofs

theorem bits_half {t : Nat} (h : t ≠ 0) : bitsN t = 1 + bitsN (t / 2) := by
  by_cases h1 : t = 1
  · subst h1; rw [bitsN_eq (k := 0) (by decide) (by decide)]; simp [bitsN]
  · exact bitsN_shift (m := 1) (by omega)
theorem refBits_fn {a : List Nat} (h : Ok a) (hl : a.length ≤ 1048576) : Fn Try.prog 33 [.sl (L a)] (.d (.i .i64 (bitsN (val a) : Nat))) := by
  have hd := digs_len_le h
  refine Fn.of (rs := [.tmp 2]) (nt := 28) Try.func33 rfl rfl rfl (by simp) rfl ?_
  refine .seq ?_
  refine .region ?_
  refine asd ?_
  refine rn ?_
  refine .seq ?_
  refine .region ?_
  refine mvd ?_
  refine cl (xs := [.sl (L a)]) ?_ (refTrim_fn h (by omega)) Try.call27
  refine aso ?_
  refine rn ?_
  refine .gh (Gh.frz (p := .t 3) rfl (fun _ _ h => by cases h)) ?_
  refine .gh (Gh.keep [3] rfl) ?_
  refine .seq ?_
  refine .seq ?_
  refine .region ?_
  refine mvd ?_
  refine ln ?_ (L_sz _) l32
  refine bi ?_
  refine rn ?_
  by_cases hz : val a = 0
  · rw [hz, digs_zero]
    refine cndt ?_
    refine .seq ?_
    refine .region ?_
    refine asd ?_
    refine rn ?_
    refine .ret ?_
    exact ⟨rfl, rfl⟩
  · obtain ⟨b, x, e1, hx, hb, hxl⟩ := digs_split hz
    have hval : bitsN (val a) = 32 * b.length + bitsN x := by rw [← bitsN_val hb hx, ← e1, val_digs]
    have hlx : bitsN x ≤ 32 := bitsN_iff.2 (by omega)
    rw [e1] at hd ⊢
    simp only [List.length_append, List.length_singleton] at hd
    rw [decide_eq_false (show ¬ ((L (b ++ [x])).length : Int) = 0 by simp [L_length]; omega)]
    refine cndf ?_
    refine .skip ?_
    show AW _ _ _ _ _ _
    refine .seq ?_
    refine .region ?_
    refine mvd ?_
    refine ln ?_ (L_sz _) l32
    refine su (b.length : Int) ?_ ?_
    · simp [L_length]; omega
    refine ml ((32 * b.length : Nat) : Int) ?_ ?_
    · omega
    refine asd ?_
    refine rn ?_
    refine .seq ?_
    refine .seq ?_
    refine .region ?_
    refine mvd ?_
    refine mvd ?_
    refine ln ?_ (L_sz _) l32
    refine su (b.length : Int) ?_ ?_
    · simp [L_length]; omega
    refine ix b.length ?_ rfl (L_at (xs := b ++ [x]) (n := x) (by simp)) rfl s32
    refine ldp ?_ a32
    refine asd ?_
    refine rn ?_
    refine .block ?_
    refine .loop (.gh (Gh.keep [4, 5] rfl) ?_)
    refine AL.ind (σ := Nat × Nat) (m := fun s => s.2) (e := fun s => [(4, .d (.i .i64 (s.1 : Int))), (5, .d (.i .u32 (s.2 : Int)))]) (h := fun _ => [])
      (I := fun s => s.1 + bitsN s.2 = bitsN (val a)) ?_ (32 * b.length, x) hval.symm
    rintro ⟨n, t⟩ h1 ih
    dsimp only at h1 ih ⊢
    refine .seq ?_
    refine .seq ?_
    refine .region ?_
    refine mvd ?_
    refine bi ?_
    refine rn ?_
    by_cases ht : t = 0
    · subst ht
      refine cndf ?_
      refine .exit ?_
      show AW _ _ _ _ _ _
      refine .seq ?_
      refine .region ?_
      refine mvd ?_
      refine asd ?_
      refine rn ?_
      refine .ret ?_
      have : n = bitsN (val a) := by rw [← h1]; simp [bitsN]
      exact ⟨by rw [← this]; rfl, rfl⟩
    · rw [decide_eq_true (show (0 : Int) < (t : Int) by omega)]
      have hsh : bitsN t = 1 + bitsN (t / 2) := bits_half ht
      refine cndt ?_
      refine .skip ?_
      show AW _ _ _ _ _ _
      refine .seq ?_
      refine .block ?_
      refine .region ?_
      refine mvd ?_
      refine ad ((n + 1 : Nat) : Int) ?_ ?_
      · omega
      refine asd ?_
      refine .nil ?_
      show AW _ _ _ _ _ _
      refine .region ?_
      refine mvd ?_
      refine bie (.i .u32 ((t / 2 : Nat) : Int)) ?_ ?_
      · simp [IntKind.bits]
      refine asd ?_
      refine rn ?_
      refine .gh (Gh.keep [4, 5] rfl) ?_
      exact ih (n + 1, t / 2) (by dsimp only; omega) (by dsimp only; omega)

theorem twice_step {V P x c A A' q r : Nat} (hq : 2 * x + c = 4294967296 * q + r) (hA : A = x + 4294967296 * A') : (V + P * r) + (2 * A' + q) * (P * 4294967296) = V + (2 * A + c) * P := by
  grind
theorem or_low {x c : Nat} (hc : c ≤ 1) : bits .or .u32 ((x * 2 % 4294967296 : Nat) : Int) (c : Int) = ((x * 2 % 4294967296 + c : Nat) : Int) := by
  rw [bits_join .u32 32 (by decide) wraps_u32 1 _ _ (by omega) (by omega) (by omega) (by omega) (by omega) (by omega)]
  omega
theorem twice_fn {a : List Nat} {c0 : Nat} (ha : Ok a) (hl : a.length ≤ 1000000) (hc0 : c0 ≤ 1) : Fn Try.prog 54 [.sl (L a), .i .u32 (c0 : Int)] (.own 49 (L (digs (2 * val a + c0)))) := by
  refine Fn.of (rs := [.tmp 4]) (nt := 35) Try.func54 rfl rfl rfl (by simp) rfl ?_
  refine .seq ?_
  refine .region ?_
  refine asn ?_
  refine rn ?_
  refine .seq ?_
  refine .region ?_
  refine asn ?_
  refine rn ?_
  refine .seq ?_
  refine .region ?_
  refine mvd ?_
  refine asd ?_
  refine rn ?_
  refine .mid (fun e H' => ∃ out c, e = [(5, .own 49 (L out)), (6, .d (.i .u32 (c : Nat)))] ∧ H' = [] ∧ Ok out ∧ c ≤ 1 ∧ out.length = a.length ∧ val (out ++ [c]) = 2 * val a + c0) ?_ ?_
  · refine .seq ?_
    refine .region ?_
    refine asd ?_
    refine rn ?_
    refine .block ?_
    refine .gh (Gh.nlOwn (t := 5) 49 z32p rfl) ?_
    refine .loop (.gh (Gh.keep [0, 5, 6, 7] rfl) ?_)
    refine AL.ind (σ := List Nat × Nat) (m := fun s => a.length - s.1.length) (e := fun s => [(0, .d (.sl (L a))), (5, .own 49 (L s.1)), (6, .d (.i .u32 (s.2 : Int))), (7, .d (.i .i64 (s.1.length : Int)))]) (h := fun _ => [])
      (I := fun s => Ok s.1 ∧ s.2 ≤ 1 ∧ s.1.length ≤ a.length ∧ val s.1 + (2 * val (a.drop s.1.length) + s.2) * 4294967296 ^ s.1.length = 2 * val a + c0) ?_ ([], c0) ⟨.nil, hc0, by simp, by simp [val]⟩
    rintro ⟨out, c⟩ ⟨h1, h2, h3, h4⟩ ih
    dsimp only at h1 h2 h3 h4 ih ⊢
    refine .seq ?_
    refine .seq ?_
    refine .region ?_
    refine mvd ?_
    refine mvd ?_
    refine ln ?_ (L_sz _) l32
    refine bi ?_
    refine rn ?_
    by_cases hA : out.length < a.length
    · rw [decide_eq_true (show (out.length : Int) < ((L a).length : Nat) by rw [L_length]; omega)]
      have hx : a[out.length]? = some a[out.length] := List.getElem?_eq_getElem hA
      have hdx : val (a.drop out.length) = a[out.length] + 4294967296 * val (a.drop (out.length + 1)) := by rw [List.drop_eq_getElem_cons hA, val]
      generalize a[out.length] = x at hx hdx
      have hxl := ha.at hx
      have hstep := twice_step (V := val out) (P := 4294967296 ^ out.length) (x := x) (c := c) (q := x / 2147483648) (r := x * 2 % 4294967296 + c) (by omega) hdx
      refine cndt ?_
      refine .skip ?_
      show AW _ _ _ _ _ _
      refine .seq ?_
      refine .block ?_
      refine .seq ?_
      refine .region ?_
      refine mvo ?_
      refine mvd ?_
      refine mvd ?_
      refine ix out.length ?_ rfl (L_at hx) rfl s32
      refine ldp ?_ a32
      refine bie (.i .u32 ((x * 2 % 4294967296 : Nat) : Int)) ?_ ?_
      · refine ⟨by decide, ?_⟩
        rw [← wrapU32]; simp [IntKind.bits]
      refine mvd ?_
      refine bie (.i .u32 ((x * 2 % 4294967296 + c : Nat) : Int)) ?_ ?_
      · exact ⟨trivial, by rw [or_low h2]⟩
      refine bsl ?_ ?_ e32
      · simp [DV.flat, DV.cells, DV.leaf]
      refine apr ?_ ?_ (L_sz1 [x * 2 % 4294967296 + c]) e32
      · simp [L_length]; omega
      refine aso ?_
      refine rn ?_
      refine .region ?_
      refine mvd ?_
      refine mvd ?_
      refine ix out.length ?_ rfl (L_at hx) rfl s32
      refine ldp ?_ a32
      refine bie (.i .u32 ((x / 2147483648 : Nat) : Int)) ?_ ?_
      · simp [IntKind.bits]
      refine asd ?_
      refine .nil ?_
      show AW _ _ _ _ _ _
      refine .region ?_
      refine mvd ?_
      refine ad ((out.length + 1 : Nat) : Int) ?_ ?_
      · omega
      refine asd ?_
      refine rn ?_
      refine .gh (Gh.keep [0, 5, 6, 7] rfl) ?_
      have := ih (out ++ [x * 2 % 4294967296 + c], x / 2147483648) ⟨h1.snoc (by omega), by dsimp only; omega, by simp; omega, ?_⟩ (by simp; omega)
      · rw [← L_snoc] at this
        dsimp only at this
        rw [List.length_append] at this
        exact this
      · dsimp only
        rw [val_snoc, List.length_append, List.length_singleton, Nat.pow_succ, hstep, h4]
    · rw [decide_eq_false (show ¬ (out.length : Int) < ((L a).length : Nat) by rw [L_length]; omega)]
      refine cndf ?_
      refine .gh (Gh.keep [5, 6] rfl) ?_
      refine .exit ?_
      refine ⟨out, c, rfl, rfl, h1, h2, by omega, ?_⟩
      rw [List.drop_eq_nil_of_le (by omega)] at h4
      rw [val_snoc, Nat.mul_comm, ← h4]
      simp [val]
  rintro _ _ ⟨out, c, rfl, rfl, h1, h2, h3, h4⟩
  refine .seq ?_
  refine .region ?_
  refine mvo ?_
  refine mvd ?_
  refine bsl ?_ ?_ e32
  · simp [DV.flat, DV.cells, DV.leaf]
  refine apr ?_ ?_ (L_sz1 [c]) e32
  · simp [L_length]; omega
  refine fz (p := .t 33) ?_
  have f1 := refTrim_fn (a := out ++ [c]) (h1.snoc (by omega)) (by simp; omega)
  rw [h4, ← L_snoc] at f1
  refine cl (xs := [.sl ((L out).take (L out).length ++ [DV.i .u32 (c : Int)])]) ?_ f1 Try.call27
  refine aso ?_
  refine rn ?_
  refine .ret ?_
  exact ⟨rfl, rfl⟩

theorem bit_val {a : List Nat} {j k x : Nat} (h : Ok a) (hx : a[j]? = some x) (hk : k < 32) : val a / 2 ^ (32 * j + k) % 2 = x / 2 ^ k % 2 := by
  have hj : j < a.length := (List.getElem?_eq_some_iff.1 hx).1
  have ex : a = a.take j ++ x :: a.drop (j + 1) := by
    rw [← (List.getElem?_eq_some_iff.1 hx).2, ← List.drop_eq_getElem_cons hj, List.take_append_drop]
  have lx : (a.take j).length = j := by rw [List.length_take]; omega
  have vx := val_lt (h.take j)
  rw [lx] at vx
  have hv : val a = val (a.take j) + 4294967296 ^ j * (x + 4294967296 * val (a.drop (j + 1))) := by
    conv => lhs; rw [ex]
    rw [val_append, lx]; rfl
  have hp : 2 ^ (32 * j) = 4294967296 ^ j := by rw [Nat.pow_mul]
  rw [hv, Nat.pow_add, hp, ← Nat.div_div_eq_div_mul, Nat.add_mul_div_left _ _ (Nat.pow_pos (by decide)), Nat.div_eq_of_lt vx, Nat.zero_add]
  have h32 : 4294967296 = 2 ^ k * (2 * 2 ^ (31 - k)) := by rw [← Nat.mul_assoc, ← Nat.pow_succ, ← Nat.pow_add]; rw [show k.succ + (31 - k) = 32 by omega]
  rw [show x + 4294967296 * val (a.drop (j + 1)) = x + 2 ^ k * (2 * (2 ^ (31 - k) * val (a.drop (j + 1)))) by
    conv => lhs; rw [h32]
    simp only [Nat.mul_assoc]]
  rw [Nat.add_mul_div_left _ _ (Nat.pow_pos (by decide))]
  omega
theorem u32_and1 (m : Nat) (h : m < 4294967296) : bits .and .u32 (m : Int) 1 = ((m % 2 : Nat) : Int) := by
  have := bits_mask .u32 32 (by decide) wraps_u32 1 (by decide) (m : Int) (by omega) (by omega)
  rw [show (2 : Int) ^ 1 - 1 = 1 by decide] at this
  rw [this]; simp
theorem tdiv32 (n : Nat) : Int.tdiv (n : Int) 32 = ((n / 32 : Nat) : Int) := rfl
theorem tmod32 (n : Nat) : Int.tmod (n : Int) 32 = ((n % 32 : Nat) : Int) := rfl
theorem bit_fn {a : List Nat} {i : Nat} (ha : Ok a) (hl : a.length ≤ 1048576) (hi : i < 32 * a.length) : Fn Try.prog 55 [.sl (L a), .i .i64 (i : Int)] (.d (.i .u32 ((val a / 2 ^ i % 2 : Nat) : Int))) := by
  have hj : i / 32 < a.length := by omega
  have hx : a[i / 32]? = some a[i / 32] := List.getElem?_eq_getElem hj
  have hb := bit_val (k := i % 32) ha hx (by omega)
  rw [show 32 * (i / 32) + i % 32 = i by omega] at hb
  rw [hb]
  generalize a[i / 32] = x at *
  have hxl := ha.at hx
  have hxk : x / 2 ^ (i % 32) ≤ x := Nat.div_le_self _ _
  refine Fn.of (rs := [.tmp 4]) (nt := 14) Try.func55 rfl rfl rfl (by simp) rfl ?_
  refine .seq ?_
  refine .region ?_
  refine asd ?_
  refine rn ?_
  refine .seq ?_
  refine .region ?_
  refine mvd ?_
  refine mvd ?_
  refine bie (.i .i64 ((i / 32 : Nat) : Int)) ?_ ?_
  · refine ⟨by decide, ?_⟩
    rw [tdiv32, wraps_i64 _ (by omega) (by omega)]
  refine ix (i / 32) ?_ rfl (L_at hx) rfl s32
  refine ldp ?_ a32
  refine mvd ?_
  refine bie (.i .i64 ((i % 32 : Nat) : Int)) ?_ ?_
  · exact ⟨by decide, by rw [tmod32]⟩
  refine bie (.i .u32 ((x / 2 ^ (i % 32) : Nat) : Int)) ?_ ?_
  · refine ⟨by omega, ?_⟩
    have e1 : min (((i % 32 : Nat) : Int).toNat) IntKind.u32.bits = i % 32 := by simp [IntKind.bits]; omega
    rw [e1]; simp
  refine bie (.i .u32 ((x / 2 ^ (i % 32) % 2 : Nat) : Int)) ?_ ?_
  · exact ⟨trivial, by rw [u32_and1 _ (by omega)]⟩
  refine asd ?_
  refine rn ?_
  refine .ret ?_
  exact ⟨rfl, rfl⟩
end Go.FL
/-
  nat.Power.
-/
namespace Go.FL
open Go Go.Proofs

theorem digs_mono {m n : Nat} (h : m ≤ n) : (digs m).length ≤ (digs n).length := by
  have h2 := val_lt (digs_ok n)
  rw [val_digs] at h2
  exact digs_len (by omega)
theorem i64_and1 (m : Nat) (h : m < 9223372036854775808) : bits .and .i64 (m : Int) 1 = ((m % 2 : Nat) : Int) := by
  have := bits_mask .i64 63 (by decide) wraps_i64 1 (by decide) (m : Int) (by omega) (by omega)
  rw [show (2 : Int) ^ 1 - 1 = 1 by decide] at this
  rw [this]; simp
theorem i64_shr1 (m : Nat) : (m : Int) / 2 ^ (min ((1 : Int).toNat) IntKind.i64.bits) = ((m / 2 : Nat) : Int) := by
  simp [IntKind.bits]
/-- A power, if it has at most so many limbs. -/
def pwOK (a n most : Nat) : Prop := (digs (a ^ n)).length ≤ most
instance (a n most : Nat) : Decidable (pwOK a n most) := inferInstanceAs (Decidable (_ ≤ _))
def pwV (a n most : Nat) : Nat := if pwOK a n most then a ^ n else 0
theorem pow_half {A m : Nat} : A ^ m = A ^ (m % 2) * (A * A) ^ (m / 2) := by
  rw [← Nat.pow_two, ← Nat.pow_mul, ← Nat.pow_add]
  congr 1; omega
theorem Power_fn {a : List Nat} (h : Ok a) (hl : a.length ≤ 1000) {n most : Nat} (hn : n < 9223372036854775808) (hm : most ≤ 1000) : Fn Try.prog 39 [.sl (L a), .i .i64 (n : Int), .i .i64 (most : Int)]
    (.tup [.d (.sl (L (digs (pwV (val a) n most)))), .d (.b (decide (pwOK (val a) n most)))]) := by
  refine Fn.of (rs := [.tmp 6, .tmp 7]) (nt := 42) Try.func39 rfl rfl rfl (by simp) rfl ?_
  refine .seq ?_
  refine .region ?_
  refine asn ?_
  refine asd ?_
  refine rn ?_
  refine .seq ?_
  refine .region ?_
  refine mvd ?_
  refine cl (xs := [.sl (L a)]) ?_ (Trim_fn h (by omega)) Try.call26
  refine aso ?_
  refine rn ?_
  have hdl : (digs (val a)).length ≤ 1000 := Nat.le_trans (digs_len_le h) hl
  refine .gh (Gh.frz (p := .t 0) rfl (fun _ _ h => by cases h)) ?_
  refine .gh (Gh.keep [0, 1, 2, 6, 7] rfl) ?_
  generalize val a = V at *
  clear h hl
  refine .seq ?_
  refine .seq ?_
  refine .region ?_
  refine mvd ?_
  refine bi ?_
  refine rn ?_
  rw [decide_eq_false (show ¬ (n : Int) < 0 by omega)]
  refine cndf ?_
  refine .skip ?_
  show AW _ _ _ _ _ _
  refine .seq ?_
  refine .region ?_
  refine bsl ?_ ?_ e32
  · simp [DV.flat, DV.cells, DV.leaf]
  refine aso ?_
  refine rn ?_
  refine .gh (Gh.frz (p := .t 8) rfl (fun _ _ h => by cases h)) ?_
  have fail : ∀ {W : Nat}, V ≠ 0 → W ≤ V ^ n → most < (digs W).length → ¬ pwOK V n most := fun hV hW hd hp => by
    have := digs_mono hW
    unfold pwOK at hp; omega
  refine .mid (fun e H' => H' = [] ∧ e = [(2, .d (.i .i64 (most : Int))), (8, .d (.sl (L (digs (V ^ n)))))]) ?_ ?_
  · refine .block ?_
    refine .loop (.gh (Gh.keep [0, 1, 2, 6, 7, 8] rfl) ?_)
    refine AL.cast (env' := [(0, .d (.sl (L (digs V)))), (1, .d (.i .i64 ((n : Nat) : Int))), (2, .d (.i .i64 (most : Int))), (6, .nl), (7, .d (.b false)), (8, .d (.sl (L (digs 1))))]) (by rw [one_limb (n := 1) (by decide) (by decide)]; rfl) ?_
    refine AL.ind (σ := Nat × Nat × Nat) (m := fun s => s.2.2) (e := fun s => [(0, .d (.sl (L (digs s.1)))), (1, .d (.i .i64 (s.2.2 : Int))), (2, .d (.i .i64 (most : Int))), (6, .nl), (7, .d (.b false)), (8, .d (.sl (L (digs s.2.1))))]) (h := fun _ => [])
      (I := fun s => V ^ n = s.2.1 * s.1 ^ s.2.2 ∧ s.2.2 < 9223372036854775808 ∧ (digs s.1).length ≤ 1000 ∧ (digs s.2.1).length ≤ 1000 ∧ (V ≠ 0 → s.1 ≠ 0 ∧ s.2.1 ≠ 0) ∧ (V = 0 → s.1 = 0)) ?_ (V, 1, n) ⟨by simp, hn, hdl, by rw [one_limb (n := 1) (by decide) (by decide)]; simp, fun h => ⟨h, by simp⟩, fun h => h⟩
    rintro ⟨A, p, m⟩ ⟨h1, h2, h3, h4, h5, h6⟩ ih
    dsimp only at h1 h2 h3 h4 h5 h6 ih ⊢
    refine .seq ?_
    refine .seq ?_
    refine .region ?_
    refine mvd ?_
    refine bi ?_
    refine rn ?_
    by_cases hm0 : m = 0
    · subst hm0
      refine cndf ?_
      refine .gh (Gh.keep [2, 8] rfl) ?_
      refine .exit ?_
      refine ⟨rfl, ?_⟩
      rw [h1, Nat.pow_zero, Nat.mul_one]; rfl
    · rw [decide_eq_true (show (0:Int) < (m:Int) by omega)]
      refine cndt ?_
      refine .skip ?_
      show AW _ _ _ _ _ _
      have hph := pow_half (A := A) (m := m)
      have okA := digs_ok A
      have okp := digs_ok p
      have vA := val_digs A
      have vp := val_digs p
      refine .block ?_
      refine .mid (fun e H' => H' = [] ∧ e = [(0, .d (.sl (L (digs A)))), (1, .d (.i .i64 (m : Int))), (2, .d (.i .i64 (most : Int))), (6, .nl), (7, .d (.b false)), (8, .d (.sl (L (digs (p * A ^ (m % 2))))))] ∧ (digs (p * A ^ (m % 2))).length ≤ 1000) ?_ ?_
      · refine .seq ?_
        refine .region ?_
        refine mvd ?_
        refine bie (.i .i64 ((m % 2 : Nat) : Int)) ?_ ?_
        · exact ⟨trivial, by rw [i64_and1 m h2]⟩
        refine bi ?_
        refine rn ?_
        by_cases hodd : m % 2 = 1
        · rw [decide_eq_true (show ((m % 2 : Nat) : Int) = 1 by omega), hodd, Nat.pow_one]
          refine cndt ?_
          refine .seq ?_
          refine .region ?_
          refine mvd ?_
          refine mvd ?_
          refine cl (xs := [.sl (L (digs p)), .sl (L (digs A))]) ?_ (prod_fn okp okA (by omega) (by omega)) Try.call59
          rw [vA, vp]
          refine asd ?_
          refine rn ?_
          refine .seq ?_
          refine .region ?_
          refine mvd ?_
          refine ln ?_ (L_sz _) l32
          refine mvd ?_
          refine bi ?_
          refine rn ?_
          by_cases hbig : most < (digs (p * A)).length
          · rw [decide_eq_true (show (most : Int) < ((L (digs (p * A))).length : Nat) by rw [L_length]; omega)]
            have hV : V ≠ 0 := fun h0 => by rw [h6 h0, Nat.mul_zero, digs_zero] at hbig; simp at hbig
            have hA := (h5 hV).1
            have hle : p * A ≤ V ^ n := by
              rw [h1, show m = (m - 1) + 1 by omega, Nat.pow_succ, Nat.mul_comm (A ^ (m - 1)), ← Nat.mul_assoc]
              exact Nat.le_mul_of_pos_right _ (Nat.pow_pos (by omega))
            have hf := fail hV hle hbig
            refine cndt ?_
            refine .seq ?_
            refine .region ?_
            refine asn ?_
            refine asd ?_
            refine rn ?_
            refine .gh (Gh.nlD (t := 6) rfl) ?_
            refine .ret ?_
            exact ⟨by decide, by rw [decide_eq_false hf, pwV, if_neg hf, digs_zero]; rfl, rfl, rfl⟩
          · rw [decide_eq_false (show ¬ (most : Int) < ((L (digs (p * A))).length : Nat) by rw [L_length]; omega)]
            refine cndf ?_
            refine .gh (Gh.keep [0, 1, 2, 6, 7, 8] rfl) ?_
            refine .skip ?_
            exact ⟨rfl, rfl, by omega⟩
        · have hev : m % 2 = 0 := by omega
          rw [decide_eq_false (show ¬ ((m % 2 : Nat) : Int) = 1 by omega), hev, Nat.pow_zero, Nat.mul_one]
          refine cndf ?_
          refine .gh (Gh.keep [0, 1, 2, 6, 7, 8] rfl) ?_
          refine .skip ?_
          exact ⟨rfl, rfl, h4⟩
      rintro _ _ ⟨rfl, rfl, hpl⟩
      have h1' : V ^ n = (p * A ^ (m % 2)) * (A * A) ^ (m / 2) := by rw [h1, hph, Nat.mul_assoc]
      have h5' : V ≠ 0 → p * A ^ (m % 2) ≠ 0 := fun h0 => Nat.mul_ne_zero (h5 h0).2 (Nat.pos_iff_ne_zero.1 (Nat.pow_pos (Nat.pos_of_ne_zero (h5 h0).1)))
      generalize p * A ^ (m % 2) = P at *
      refine .seq ?_
      refine .region ?_
      refine mvd ?_
      refine bie (.i .i64 ((m / 2 : Nat) : Int)) ?_ ?_
      · exact ⟨by decide, by rw [i64_shr1]⟩
      refine asd ?_
      refine rn ?_
      refine .seq ?_
      refine .region ?_
      refine mvd ?_
      refine bi ?_
      refine rn ?_
      by_cases hh : m / 2 = 0
      · rw [decide_eq_false (show ¬ (0 : Int) < ((m / 2 : Nat) : Int) by omega)]
        refine cndf ?_
        refine .gh (Gh.keep [0, 1, 2, 6, 7, 8] rfl) ?_
        refine .skip ?_
        show AL _ _ _ _ _ _
        refine ih (A, P, m / 2) ⟨?_, by dsimp only; omega, h3, hpl, fun h0 => ⟨(h5 h0).1, h5' h0⟩, h6⟩ (by dsimp only; omega)
        dsimp only
        rw [h1', hh]; simp
      · rw [decide_eq_true (show (0 : Int) < ((m / 2 : Nat) : Int) by omega)]
        refine cndt ?_
        refine .seq ?_
        refine .region ?_
        refine mvd ?_
        refine mvd ?_
        refine cl (xs := [.sl (L (digs A)), .sl (L (digs A))]) ?_ (prod_fn okA okA (by omega) (by omega)) Try.call59
        rw [vA]
        refine asd ?_
        refine rn ?_
        refine .seq ?_
        refine .region ?_
        refine mvd ?_
        refine ln ?_ (L_sz _) l32
        refine mvd ?_
        refine bi ?_
        refine rn ?_
        by_cases hbig : most < (digs (A * A)).length
        · rw [decide_eq_true (show (most : Int) < ((L (digs (A * A))).length : Nat) by rw [L_length]; omega)]
          have hV : V ≠ 0 := fun h0 => by rw [h6 h0, Nat.mul_zero, digs_zero] at hbig; simp at hbig
          have hA := (h5 hV).1
          have hP := h5' hV
          have hle : A * A ≤ V ^ n := by
            rw [h1', show m / 2 = (m / 2 - 1) + 1 by omega, Nat.pow_succ, ← Nat.mul_assoc]
            exact Nat.le_mul_of_pos_left _ (Nat.mul_pos (by omega) (Nat.pow_pos (Nat.mul_pos (by omega) (by omega))))
          have hf := fail hV hle hbig
          refine cndt ?_
          refine .seq ?_
          refine .region ?_
          refine asn ?_
          refine asd ?_
          refine rn ?_
          refine .gh (Gh.nlD (t := 6) rfl) ?_
          refine .ret ?_
          exact ⟨by decide, by rw [decide_eq_false hf, pwV, if_neg hf, digs_zero]; rfl, rfl, rfl⟩
        · rw [decide_eq_false (show ¬ (most : Int) < ((L (digs (A * A))).length : Nat) by rw [L_length]; omega)]
          refine cndf ?_
          refine .gh (Gh.keep [0, 1, 2, 6, 7, 8] rfl) ?_
          refine .skip ?_
          show AL _ _ _ _ _ _
          exact ih (A * A, P, m / 2) ⟨h1', by dsimp only; omega, by dsimp only; omega, hpl, fun h0 => ⟨Nat.mul_ne_zero (h5 h0).1 (h5 h0).1, h5' h0⟩, fun h0 => by rw [h6 h0]⟩ (by dsimp only; omega)
  rintro _ _ ⟨rfl, rfl⟩
  refine .seq ?_
  refine .seq ?_
  refine .region ?_
  refine mvd ?_
  refine ln ?_ (L_sz _) l32
  refine mvd ?_
  refine bi ?_
  refine rn ?_
  by_cases hf : pwOK V n most
  · rw [decide_eq_false (show ¬ (most : Int) < ((L (digs (V ^ n))).length : Nat) by unfold pwOK at hf; rw [L_length]; omega)]
    refine cndf ?_
    refine .skip ?_
    show AW _ _ _ _ _ _
    refine .seq ?_
    refine .region ?_
    refine mvd ?_
    refine asd ?_
    refine asd ?_
    refine rn ?_
    refine .ret ?_
    exact ⟨by decide, by rw [decide_eq_true hf, pwV, if_pos hf]; rfl, rfl, rfl⟩
  · rw [decide_eq_true (show (most : Int) < ((L (digs (V ^ n))).length : Nat) by unfold pwOK at hf; rw [L_length]; omega)]
    refine cndt ?_
    refine .seq ?_
    refine .region ?_
    refine asn ?_
    refine asd ?_
    refine rn ?_
    refine .gh (Gh.nlD (t := 6) rfl) ?_
    refine .ret ?_
    exact ⟨by decide, by rw [decide_eq_false hf, pwV, if_neg hf, digs_zero]; rfl, rfl, rfl⟩
theorem PowerNeg_fn {a : List Nat} (h : Ok a) (hl : a.length ≤ 1000) {n : Int} (hn : n < 0) {most : Int} : Fn Try.prog 39 [.sl (L a), .i .i64 n, .i .i64 most] (.tup [.d (.sl []), .d (.b false)]) := by
  refine Fn.of (rs := [.tmp 6, .tmp 7]) (nt := 42) Try.func39 rfl rfl rfl (by simp) rfl ?_
  refine .seq ?_
  refine .region ?_
  refine asn ?_
  refine asd ?_
  refine rn ?_
  refine .seq ?_
  refine .region ?_
  refine mvd ?_
  refine cl (xs := [.sl (L a)]) ?_ (Trim_fn h (by omega)) Try.call26
  refine aso ?_
  refine rn ?_
  refine .seq ?_
  refine .seq ?_
  refine .region ?_
  refine mvd ?_
  refine bi ?_
  refine rn ?_
  rw [decide_eq_true (show n < 0 by omega)]
  refine cndt ?_
  refine .seq ?_
  refine .region ?_
  refine asn ?_
  refine asd ?_
  refine rn ?_
  refine .gh (Gh.nlD (t := 6) rfl) ?_
  refine .ret ?_
  exact ⟨by decide, rfl, rfl, rfl⟩
end Go.FL
/-
  The law NatPowersAdd: powers add.
-/
namespace Go.FL
open Go Go.Proofs

theorem as_u8 {z : Int} (h : (Lit.int .u8 z).wf = true) : ∃ n : Nat, n < 256 ∧ z = (n : Int) := by
  have h2 : 0 ≤ z ∧ z ≤ 255 := by simpa [Lit.wf, IntKind.min, IntKind.max, IntKind.signed, IntKind.bits] using h
  exact ⟨z.toNat, by omega, by omega⟩
theorem as_u16 {z : Int} (h : (Lit.int .u16 z).wf = true) : ∃ n : Nat, n < 65536 ∧ z = (n : Int) := by
  have h2 : 0 ≤ z ∧ z ≤ 65535 := by simpa [Lit.wf, IntKind.min, IntKind.max, IntKind.signed, IntKind.bits] using h
  exact ⟨z.toNat, by omega, by omega⟩
theorem as_u64 {z : Int} (h : (Lit.int .u64 z).wf = true) : ∃ n : Nat, n < 18446744073709551616 ∧ z = (n : Int) := by
  have h2 : 0 ≤ z ∧ z ≤ 18446744073709551615 := by simpa [Lit.wf, IntKind.min, IntKind.max, IntKind.signed, IntKind.bits] using h
  exact ⟨z.toNat, by omega, by omega⟩
theorem tmod20 (n : Nat) : Int.tmod (n : Int) 20 = ((n % 20 : Nat) : Int) := rfl
theorem pw_fits {x : List Nat} (h : Ok x) {j n : Nat} (hl : x.length ≤ j) : (digs (val x ^ n)).length ≤ j * n + 1 := by
  refine digs_len ?_
  have h1 : val x < 4294967296 ^ j := Nat.lt_of_lt_of_le (val_lt h) (Nat.pow_le_pow_right (by decide) hl)
  have h2 : val x ^ n ≤ (4294967296 ^ j) ^ n := Nat.pow_le_pow_left (Nat.le_of_lt h1) n
  rw [← Nat.pow_mul] at h2
  have h3 : 4294967296 ^ (j * n) < 4294967296 ^ (j * n + 1) := Nat.pow_lt_pow_right (by decide) (by omega)
  omega
theorem PowerAll_fn {a : List Nat} (h : Ok a) (hl : a.length ≤ 4) {n most : Nat} (hm : most ≤ 1000) (hn : 4 * n + 1 ≤ most) : Fn Try.prog 39 [.sl (L a), .i .i64 (n : Int), .i .i64 (most : Int)]
    (.tup [.d (.sl (L (digs (val a ^ n)))), .d (.b true)]) := by
  have h1 : pwOK (val a) n most := Nat.le_trans (pw_fits h hl) hn
  have := Power_fn (a := a) (n := n) (most := most) h (by omega) (by omega) hm
  rwa [decide_eq_true h1, pwV, if_pos h1] at this
theorem NatPowersAdd_fn {a : List Nat} {m n : Nat} (ha : Ok a) (hm : m < 256) (hn : n < 256) : Fn Try.prog 11 [.sl (L a), .i .u8 (m : Int), .i .u8 (n : Int)] (.d (.b true)) := by
  refine Fn.of (rs := [.tmp 6]) (nt := 68) Try.func11 rfl rfl rfl (by simp) rfl ?_
  refine .seq ?_
  refine .region ?_
  refine asd ?_
  refine rn ?_
  refine .seq ?_
  refine .region ?_
  refine mvd ?_
  refine cl (xs := [.sl (L a)]) ?_ (few_fn a) Try.call16
  refine asd ?_
  refine rn ?_
  have oa := ha.take 40
  generalize a.take 40 = y at *
  refine .mid (fun e H' => H' = [] ∧ ∃ x, Ok x ∧ x.length ≤ 4 ∧ e = [(1, .d (.i .u8 (m : Int))), (2, .d (.i .u8 (n : Int))), (7, .d (.sl (L x)))]) ?_ ?_
  · refine .seq ?_
    refine .region ?_
    refine mvd ?_
    refine ln ?_ (L_sz _) l32
    refine bi ?_
    refine rn ?_
    by_cases hl : 4 < y.length
    · rw [decide_eq_true (show (4 : Int) < ((L y).length : Nat) by rw [L_length]; omega)]
      refine cndt ?_
      refine .region ?_
      refine mvd ?_
      refine sl 0 4 ?_ ?_ (L_sz1 _) s32
      · simp [L_length]; omega
      refine asd ?_
      refine .gh (Gh.keep [1, 2, 7] rfl) ?_
      refine .nil ?_
      refine ⟨rfl, y.take 4, oa.take 4, by rw [List.length_take]; omega, ?_⟩
      rw [← L_take]; rfl
    · rw [decide_eq_false (show ¬ (4 : Int) < ((L y).length : Nat) by rw [L_length]; omega)]
      refine cndf ?_
      refine .gh (Gh.keep [1, 2, 7] rfl) ?_
      refine .skip ?_
      exact ⟨rfl, y, oa, by omega, rfl⟩
  rintro _ _ ⟨rfl, x, ox, lx, rfl⟩
  have f1 := PowerAll_fn (n := m % 20) (most := 200) ox lx (by decide) (by omega)
  have f2 := PowerAll_fn (n := n % 20) (most := 200) ox lx (by decide) (by omega)
  have f3 := PowerAll_fn (n := m % 20 + n % 20) (most := 400) ox lx (by decide) (by omega)
  have l1 := pw_fits (n := m % 20) ox lx
  have l2 := pw_fits (n := n % 20) ox lx
  have l3 := pw_fits (n := m % 20 + n % 20) ox lx
  have f4 : Fn Try.prog 34 [.sl (LL [digs (val x ^ (m % 20)), digs (val x ^ (n % 20))])] (.d (.sl (L (digs (val x ^ (m % 20 + n % 20)))))) := by
    have := prods_fn (M := 100) (ls := [digs (val x ^ (m % 20)), digs (val x ^ (n % 20))]) (by simp [digs_ok]) (by simp; omega) (by simp) (by decide)
    rwa [show prodF [digs (val x ^ (m % 20)), digs (val x ^ (n % 20))] 1 = val x ^ (m % 20 + n % 20) by simp only [prodF, List.foldl, Nat.one_mul, val_digs]; rw [Nat.pow_add]] at this
  have f5 := Compare_fn (a := digs (val x ^ (m % 20 + n % 20))) (b := digs (val x ^ (m % 20 + n % 20))) (digs_ok _) (digs_ok _) (by omega) (by omega)
  rw [cmp_self] at f5
  clear l1 l2 l3 oa
  generalize digs (val x ^ (m % 20)) = p at *
  generalize digs (val x ^ (n % 20)) = q at *
  generalize digs (val x ^ (m % 20 + n % 20)) = r at *
  have hm20 : IntKind.i64.wrap ((m % 20 : Nat) : Int) = ((m % 20 : Nat) : Int) := wraps_i64 _ (by omega) (by omega)
  have hn20 : IntKind.i64.wrap ((n % 20 : Nat) : Int) = ((n % 20 : Nat) : Int) := wraps_i64 _ (by omega) (by omega)
  refine .seq ?_
  refine .region ?_
  refine mvd ?_
  refine mvd ?_
  refine bie (.i .u8 ((m % 20 : Nat) : Int)) ?_ ?_
  · exact ⟨by decide, by rw [tmod20]⟩
  refine cve ((m % 20 : Nat) : Int) hm20 ?_ u8 i64
  refine cl (xs := [.sl (L x), .i .i64 ((m % 20 : Nat) : Int), .i .i64 ((200 : Nat) : Int)]) ?_ f1 Try.call39
  refine mvt ?_
  refine ex ?_
  refine ex ?_
  refine asd ?_
  refine asd ?_
  refine rn ?_
  refine .gh (Gh.keep [1, 2, 7, 8, 9] rfl) ?_
  refine .seq ?_
  refine .region ?_
  refine mvd ?_
  refine mvd ?_
  refine bie (.i .u8 ((n % 20 : Nat) : Int)) ?_ ?_
  · exact ⟨by decide, by rw [tmod20]⟩
  refine cve ((n % 20 : Nat) : Int) hn20 ?_ u8 i64
  refine cl (xs := [.sl (L x), .i .i64 ((n % 20 : Nat) : Int), .i .i64 ((200 : Nat) : Int)]) ?_ f2 Try.call39
  refine mvt ?_
  refine ex ?_
  refine ex ?_
  refine asd ?_
  refine asd ?_
  refine rn ?_
  refine .gh (Gh.keep [1, 2, 7, 8, 9, 10, 11] rfl) ?_
  refine .seq ?_
  refine .region ?_
  refine mvd ?_
  refine mvd ?_
  refine bie (.i .u8 ((m % 20 : Nat) : Int)) ?_ ?_
  · exact ⟨by decide, by rw [tmod20]⟩
  refine cve ((m % 20 : Nat) : Int) hm20 ?_ u8 i64
  refine mvd ?_
  refine bie (.i .u8 ((n % 20 : Nat) : Int)) ?_ ?_
  · exact ⟨by decide, by rw [tmod20]⟩
  refine cve ((n % 20 : Nat) : Int) hn20 ?_ u8 i64
  refine ad ((m % 20 + n % 20 : Nat) : Int) ?_ ?_
  · omega
  refine cl (xs := [.sl (L x), .i .i64 ((m % 20 + n % 20 : Nat) : Int), .i .i64 ((400 : Nat) : Int)]) ?_ f3 Try.call39
  refine mvt ?_
  refine ex ?_
  refine ex ?_
  refine asd ?_
  refine asd ?_
  refine rn ?_
  refine .gh (Gh.keep [8, 9, 10, 11, 12, 13] rfl) ?_
  refine .seq ?_
  refine .region ?_
  refine cl (xs := []) ?_ live_fn Try.call17
  refine mvd ?_
  refine mvd ?_
  refine pkd ?_
  refine mvd ?_
  refine mvd ?_
  refine pkd ?_
  refine mvd ?_
  refine mvd ?_
  refine pkd ?_
  refine mvd ?_
  refine mvd ?_
  refine mvd ?_
  refine bsl ?_ ?_ e2
  · simp [DV.flat, DV.cells, DV.leaf]
  refine fz (p := .t 62) ?_
  refine cl (xs := [.sl (LL [p, q])]) ?_ f4 Try.call34
  refine mvd ?_
  refine cl (xs := [.sl (L r), .sl (L r)]) ?_ f5 Try.call30
  refine bi ?_
  refine pkd ?_
  refine asd ?_
  refine rn ?_
  refine .ret ?_
  exact ⟨rfl, rfl⟩
end Go.FL
/-
  The law NatSizes: numbers are compared, measured, and cut to their limbs.
-/
namespace Go.FL
open Go Go.Proofs

theorem NatSizes_fn {a b : List Nat} {n : Nat} (ha : Ok a) (hb : Ok b) (hlb : b.length ≤ 35184372087808) (hn : n < 18446744073709551616) : Fn Try.prog 4 [.sl (L a), .sl (L b), .i .u64 (n : Int)] (.d (.b true)) := by
  have w1 := own_fn a
  have v1 := few_fn a
  have k1 := kept_fn (x := a.take 40) (b := a) rfl
  have oa := ha.take 40
  have la : (a.take 40).length ≤ 40 := by rw [List.length_take]; omega
  generalize a.take 40 = x at *
  have va : val x < 4294967296 ^ 40 := Nat.lt_of_lt_of_le (val_lt oa) (Nat.pow_le_pow_right (by decide) la)
  have sm1 := Small_fn oa (by omega)
  have sm2 := refSmall_fn oa (by omega)
  have rt1 := Right_fn oa (by omega)
  have rt2 := refRight_fn oa (by omega)
  have tr1 := Trim_fn oa (by omega)
  have tr2 := refTrim_fn oa (by omega)
  have sa1 := same_fn va (by decide)
  have of1 := Of_fn hn
  have of2 := refOf_fn hn
  have sa2 := same_fn (n := n) (k := 2) (by omega) (by decide)
  have cp1 := Compare_fn oa hb (by omega) hlb
  have cp2 := refCompare_fn oa hb (by omega) hlb
  have bt1 := Bits_fn oa (by omega)
  have bt2 := refBits_fn oa (by omega)
  clear va
  generalize smallN x = s at *
  generalize decide (bitsN (val x) ≤ 63) = ok at *
  generalize decide (digs (val x) = x) = rt at *
  generalize cmpN (val x) (val b) = c at *
  generalize bitsN (val x) = n2 at *
  refine Fn.of (rs := [.tmp 6]) (nt := 82) Try.func4 rfl rfl rfl (by simp) rfl ?_
  refine .seq ?_
  refine .region ?_
  refine asd ?_
  refine rn ?_
  refine .seq ?_
  refine .region ?_
  refine mvd ?_
  refine cl (xs := [.sl (L a)]) ?_ w1 Try.call13
  refine asd ?_
  refine rn ?_
  refine .gh (Gh.keep [0, 1, 2, 7] rfl) ?_
  refine .seq ?_
  refine .region ?_
  refine mvd ?_
  refine RL.gh (Gh.slx (t := 15) rfl) ?_
  refine cl (xs := [.sl (L x)]) ?_ sm1 Try.call22
  refine mvt ?_
  refine ex ?_
  refine ex ?_
  refine asd ?_
  refine asd ?_
  refine rn ?_
  refine .gh (Gh.keep [0, 1, 2, 7, 8, 9] rfl) ?_
  refine .seq ?_
  refine .region ?_
  refine mvd ?_
  refine cl (xs := [.sl (L a)]) ?_ v1 Try.call16
  refine cl (xs := [.sl (L x)]) ?_ sm2 Try.call23
  refine mvt ?_
  refine ex ?_
  refine ex ?_
  refine asd ?_
  refine asd ?_
  refine rn ?_
  refine .gh (Gh.keep [0, 1, 2, 7, 8, 9, 10, 11] rfl) ?_
  refine .seq ?_
  refine .region ?_
  refine cl (xs := []) ?_ live_fn Try.call17
  refine mvd ?_
  refine mvd ?_
  refine mvd ?_
  refine bi ?_
  rw [decide_eq_true (show (s : Int) = s from rfl)]
  refine pkd ?_
  refine mvd ?_
  refine mvd ?_
  refine mvd ?_
  refine bbn ?_ (.inl rfl) bo
  rw [if_pos rfl, beq_self_eq_true]
  refine pkd ?_
  refine mvd ?_
  refine mvd ?_
  refine RL.gh (Gh.slx (t := 37) rfl) ?_
  refine cl (xs := [.sl (L x)]) ?_ rt1 Try.call24
  refine mvd ?_
  refine cl (xs := [.sl (L a)]) ?_ v1 Try.call16
  refine cl (xs := [.sl (L x)]) ?_ rt2 Try.call25
  refine bbn ?_ (.inl rfl) bo
  rw [if_pos rfl, beq_self_eq_true]
  refine pkd ?_
  refine mvd ?_
  refine mvd ?_
  refine RL.gh (Gh.slx (t := 45) rfl) ?_
  refine cl (xs := [.sl (L x)]) ?_ tr1 Try.call26
  refine mvd ?_
  refine cl (xs := [.sl (L a)]) ?_ v1 Try.call16
  refine cl (xs := [.sl (L x)]) ?_ tr2 Try.call27
  refine fz (p := .t 46) ?_
  refine fz (p := .t 49) ?_
  refine cl (xs := [.sl (L (digs (val x))), .sl (L (digs (val x)))]) ?_ sa1 Try.call18
  refine pkd ?_
  refine mvd ?_
  refine mvd ?_
  refine cl (xs := [.i .u64 (n : Int)]) ?_ of1 Try.call28
  refine mvd ?_
  refine cl (xs := [.i .u64 (n : Int)]) ?_ of2 Try.call29
  refine fz (p := .t 56) ?_
  refine cl (xs := [.sl (L (digs n)), .sl (L (digs n))]) ?_ sa2 Try.call18
  refine pkd ?_
  refine mvd ?_
  refine mvd ?_
  refine RL.gh (Gh.slx (t := 60) rfl) ?_
  refine mvd ?_
  refine cl (xs := [.sl (L x), .sl (L b)]) ?_ cp1 Try.call30
  refine mvd ?_
  refine cl (xs := [.sl (L a)]) ?_ v1 Try.call16
  refine mvd ?_
  refine cl (xs := [.sl (L x), .sl (L b)]) ?_ cp2 Try.call31
  refine bi ?_
  rw [decide_eq_true (show c = c from rfl)]
  refine pkd ?_
  refine mvd ?_
  refine mvd ?_
  refine RL.gh (Gh.slx (t := 70) rfl) ?_
  refine cl (xs := [.sl (L x)]) ?_ bt1 Try.call32
  refine mvd ?_
  refine cl (xs := [.sl (L a)]) ?_ v1 Try.call16
  refine cl (xs := [.sl (L x)]) ?_ bt2 Try.call33
  refine bi ?_
  rw [decide_eq_true (show (n2 : Int) = n2 from rfl)]
  refine pkd ?_
  refine mvd ?_
  refine mvd ?_
  refine mvd ?_
  refine cl (xs := [.slx (L x) (L [77, 78]), .sl (L a)]) ?_ k1 Try.call21
  refine pkd ?_
  refine asd ?_
  refine rn ?_
  refine .ret ?_
  exact ⟨rfl, rfl⟩

end Go.FL
/-
  A FUNCTIONAL LOGIC, 34: arguments whose room is bounded, as the statement's form bounds it.
-/
namespace Go.FL
open Go Go.RowKit Go.ChangeShapes Go.WideShapes Go.ChangeAt

section
variable {H : Type} {enc : TypeId × Value → H} {P : Program} {W W' : World}

theorem arg_ints_sized {t e : TypeId} {k : IntKind} {v : Value} {d : DataW H} {ps : List MemPlace} (ht : P.underlying t = some (.slice e)) (he : P.underlying e = some (.int k)) (hc : P.cellsOf e = 1) (hval : Value.okWide P W .any 0 t v)
    (hd : DataW.Trod enc P W 0 (fun _ => true) true t v d ps) (hz : ∀ elems spare, d = .slice elems spare → (elems.length + spare.length) * P.bytesOf e ≤ reachBytes) :
    ∃ zs : List Int, (∀ z ∈ zs, (Lit.int k z).wf = true) ∧ zs.length * P.bytesOf e ≤ reachBytes ∧ Rep W (fun b => b < W.heap.size) (.sl (zs.map (.i k))) v := by
  obtain ⟨zs, h1, h2, h3⟩ := arg_ints ht he hc hval hd
  obtain ⟨a0, l0, c0, rfl⟩ := okWide_slice ht hval
  have hl : zs.length = l0 := by
    generalize hvv : Value.slice a0 l0 c0 = v at h3
    generalize hxx : zs.map (DV.i k) = xx at h3
    have hlx := congrArg List.length hxx
    rw [List.length_map] at hlx
    cases h3 with
    | sl0 _ _ => simp_all
    | sl => simp_all
  refine ⟨zs, h1, ?_, h3⟩
  obtain ⟨fuel, hf⟩ := hd
  rcases open_ints ht he hc hf with ⟨h1, _⟩ | ⟨a, len, cap, ys, h1, _, hlc, hcm, hzl, hx, hcell, hwf⟩
  · simp only [Value.cells, List.cons.injEq, Value.slice.injEq, and_true] at h1
    obtain ⟨rfl, rfl, rfl⟩ := h1
    rw [hl]; simp
  · simp only [Value.cells, List.cons.injEq, Value.slice.injEq, and_true] at h1
    obtain ⟨rfl, rfl, rfl⟩ := h1
    simp only [if_true] at hzl
    have hxd := congrArg Prod.fst hx
    have := hz _ _ hxd
    refine Nat.le_trans (Nat.mul_le_mul_right _ ?_) this
    simp [lits]; omega
end
end Go.FL
