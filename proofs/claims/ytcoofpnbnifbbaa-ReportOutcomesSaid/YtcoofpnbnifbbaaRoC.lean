/-
  Part 3 of the base of the proofs: a logic of our own over the calculus, the contracts of the functions
-/
import Derived.Test.YtcoofpnbnifbbaaRoB
set_option linter.unusedVariables false
/-
  nat.small: division by one limb.
-/
namespace Go.FL
open Go Go.Proofs

theorem L_set (xs : List Nat) (i n : Nat) : (L xs).set i (U n) = L (xs.set i n) := by simp [L, List.map_set]
theorem L_at' {xs : List Nat} {i n : Nat} (h : xs[i]? = some n) : ∃ x, (L xs)[i]? = some x ∧ x.cells[0]? = some (U n) := ⟨U n, L_at h, rfl⟩
theorem L_leaf {xs : List Nat} {i n : Nat} (h : xs[i]? = some n) : ∃ x, (L xs)[i]? = some x ∧ x.leaf = true := ⟨U n, L_at h, rfl⟩
/-- One round of the division. -/
theorem small_round {ds qs : List Nat} {k x r d : Nat} (hx : ds[k]? = some x) (h : val (ds.drop (k + 1)) = val qs * d + r) :
    val (ds.drop k) = val ((r * 4294967296 + x) / d :: qs) * d + (r * 4294967296 + x) % d := by
  have hk : k < ds.length := (List.getElem?_eq_some_iff.1 hx).1
  have e : ds.drop k = x :: ds.drop (k + 1) := by
    rw [List.drop_eq_getElem_cons hk]
    rw [List.getElem?_eq_getElem hk] at hx; cases hx; rfl
  rw [e, val, h, val]
  have := Nat.div_add_mod (r * 4294967296 + x) d
  generalize (r * 4294967296 + x) / d = q at *
  generalize (r * 4294967296 + x) % d = s at *
  rw [Nat.add_mul, Nat.mul_add, Nat.mul_comm q d]
  have e2 : 4294967296 * (val qs * d) = 4294967296 * val qs * d := by rw [Nat.mul_assoc]
  omega
theorem divmod_of {n q r d : Nat} (h : n = q * d + r) (hr : r < d) : n / d = q ∧ n % d = r := by
  subst h
  have hd : 0 < d := by omega
  constructor
  · rw [Nat.mul_comm, Nat.mul_add_div hd, Nat.div_eq_of_lt hr]; omega
  · rw [Nat.mul_comm, Nat.mul_add_mod, Nat.mod_eq_of_lt hr]
theorem small_fn {a : List Nat} (h : Ok a) (hl : a.length ≤ 1048576) {d : Nat} (hd0 : 0 < d) (hd : d < 4294967296) : Fn Try.prog 147 [.sl (L a), .i .u32 d]
    (.tup [.d (.sl (L (digs (val a / d)))), .d (.sl (L (digs (val a % d))))]) := by
  have hdl := digs_len_le h
  refine Fn.of (rs := [.tmp 4, .tmp 5]) (nt := 35) Try.func147 rfl rfl rfl (by simp) rfl ?_
  refine .seq ?_
  refine .region ?_
  refine asn ?_
  refine asn ?_
  refine rn ?_
  refine .seq ?_
  refine .region ?_
  refine mvd ?_
  refine cl ?_ (Trim_fn h (by omega)) Try.call138
  refine aso ?_
  refine rn ?_
  refine .seq ?_
  refine .region ?_
  refine asd ?_
  refine rn ?_
  generalize hds : digs (val a) = ds at *
  have hok : Ok ds := by rw [← hds]; exact digs_ok _
  have hv : val ds = val a := by rw [← hds, val_digs]
  refine .mid (fun e H' => ∃ qs r, e = [(4, .own 125 (L qs)), (6, .d (.i .u32 ((r : Nat) : Int)))] ∧ H' = [] ∧ Ok qs ∧ qs.length = ds.length ∧ r < d ∧ val a = val qs * d + r) ?_ ?_
  · refine .seq ?_
    refine .region ?_
    refine mvo ?_
    refine lnr ?_ l32
    refine su ((ds.length : Int) - 1) ?_ ?_
    · simp [L_length]; omega
    refine asd ?_
    refine rn ?_
    refine .block ?_
    refine .loop (.gh (Gh.keep [1, 4, 6, 7] rfl) ?_)
    refine AL.cast (env' := [(1, .d (.i .u32 d)), (4, .own 125 (L (ds.take ds.length ++ []))), (6, .d (.i .u32 ((0 : Nat) : Int))), (7, .d (.i .i64 ((ds.length : Int) - 1)))]) (by simp [keepE, get, argEnv]) ?_
    refine AL.ind (σ := Nat × List Nat × Nat) (m := fun s => s.1) (e := fun s => [(1, .d (.i .u32 d)), (4, .own 125 (L (ds.take s.1 ++ s.2.1))), (6, .d (.i .u32 (s.2.2 : Int))), (7, .d (.i .i64 ((s.1 : Int) - 1)))]) (h := fun _ => [])
      (I := fun s => s.1 ≤ ds.length ∧ Ok s.2.1 ∧ s.2.1.length + s.1 = ds.length ∧ s.2.2 < d ∧ val (ds.drop s.1) = val s.2.1 * d + s.2.2) ?_ (ds.length, [], 0) ?_
    rotate_left
    · exact ⟨Nat.le_refl _, .nil, by simp, hd0, by simp [val]⟩
    rintro ⟨k, qs, r⟩ ⟨h1, h2, h3, h4, h5⟩ ih
    dsimp only at h1 h2 h3 h4 h5 ih ⊢
    refine .seq ?_
    refine .seq ?_
    refine .region ?_
    refine mvd ?_
    refine bi ?_
    refine rn ?_
    rcases Nat.eq_zero_or_pos k with rfl | hk
    · rw [decide_eq_false (show ¬ (0:Int) ≤ ((0 : Nat) : Int) - 1 by omega)]
      refine cndf ?_
      refine .gh (Gh.keep [4, 6] rfl) ?_
      refine .exit ?_
      refine ⟨qs, r, rfl, rfl, h2, by omega, h4, ?_⟩
      rw [← hv, ← h5, List.drop_zero]
    · obtain ⟨k, rfl⟩ : ∃ j, k = j + 1 := ⟨k - 1, by omega⟩
      have hx : ds[k]? = some ds[k] := List.getElem?_eq_getElem (by omega)
      generalize ds[k] = x at hx
      have hx' : (ds.take (k + 1) ++ qs)[k]? = some x := by
        rw [List.getElem?_append_left (by simp; omega), List.getElem?_take_of_lt (by omega)]; exact hx
      rw [decide_eq_true (show (0:Int) ≤ ((k + 1 : Nat) : Int) - 1 by omega)]
      refine cndt ?_
      refine .skip ?_
      show AW _ _ _ _ _ _
      refine .seq ?_
      refine .block ?_
      refine .region ?_
      refine mvo ?_
      refine mvd ?_
      refine mvd ?_
      refine mvo ?_
      refine mvd ?_
      refine ixr k ?_ ?_ ?_ s32 (by decide)
      · omega
      · simp [L_length]; omega
      refine lde (U x) ?_ ?_ a32
      · rw [Nat.zero_add]; exact L_at' hx'
      refine mvd ?_
      refine cl (xs := [.i .u32 r, .i .u32 x, .i .u32 d]) ?_ (Div32_fn h4 (hok.at hx) hd) Try.call157
      refine mvt ?_
      refine ex ?_
      refine ex ?_
      refine ixr k ?_ ?_ ?_ s32 (by decide)
      · omega
      · simp [L_length]; omega
      refine ste ?_ ?_ z32
      · rw [Nat.zero_add]; exact L_leaf hx'
      refine asd ?_
      refine .nil ?_
      show AW _ _ _ _ _ _
      refine .region ?_
      refine mvd ?_
      refine su ((k : Int) - 1) ?_ ?_
      · omega
      refine asd ?_
      refine .nil ?_
      have hq : (r * 4294967296 + x) / d < 4294967296 := by
        rw [Nat.div_lt_iff_lt_mul (by omega)]
        have : r * 4294967296 + 4294967296 ≤ d * 4294967296 := by rw [← Nat.succ_mul]; exact Nat.mul_le_mul_right _ h4
        have := hok.at hx
        omega
      have e1 : (L (ds.take (k + 1) ++ qs)).set (0 + k) (U ((r * 4294967296 + x) / d)) = L (ds.take k ++ ((r * 4294967296 + x) / d :: qs)) := by
        rw [L_set, Nat.zero_add, List.take_add_one, hx]
        congr 1
        rw [List.append_assoc, List.set_append_right _ _ (by simp; omega)]
        simp [Nat.min_eq_left (show k ≤ ds.length by omega)]
      refine AL.gh (Gh.keep [1, 4, 6, 7] rfl) ?_
      have := ih (k, (r * 4294967296 + x) / d :: qs, (r * 4294967296 + x) % d) ⟨by omega, .cons hq h2, by simp; omega, Nat.mod_lt _ hd0, small_round hx h5⟩ (by simp)
      dsimp only at this
      rw [← e1] at this
      exact this
  · rintro _ _ ⟨qs, r, rfl, rfl, h1, h2, h3, h4⟩
    obtain ⟨e1, e2⟩ := divmod_of h4 h3
    rw [e1, e2]
    refine .seq ?_
    refine .region ?_
    refine fz (p := .t 4) ?_
    refine mvd ?_
    refine cl (xs := [.sl (L qs)]) ?_ (cut_val h1 (by omega)) Try.call127
    refine mvd ?_
    refine cve (r : Int) (toU64 (by omega)) ?_ u32 u64
    refine cl ?_ (Of_fn (n := r) (by omega)) Try.call97
    refine asd ?_
    refine asd ?_
    refine rn ?_
    refine .ret ?_
    exact ⟨by decide, rfl, rfl, rfl⟩
end Go.FL
/-
  slices.Reverse of bytes.
-/
namespace Go.FL
open Go Go.Proofs

theorem s8 : sliceT Try.prog 132 = some (5, 1, 1) := by kernel_rfl
theorem e8 : elemT Try.prog 132 = some (5, 1, 1, .int .u8 0) := by kernel_rfl
theorem l8 : Try.prog.underlying 132 = some (.slice (Try.prog.elem 132)) := by kernel_rfl
theorem q8 : Try.prog.underlying 132 = some (.slice 5) := by kernel_rfl
theorem a8 : aggT Try.prog 5 = some false := by kernel_rfl
theorem z8 : szOf Try.prog 5 = 1 := by kernel_rfl
theorem B_at' {ns : List Nat} {i n : Nat} (h : ns[i]? = some n) : ∃ x, (B ns)[i]? = some x ∧ x.cells[0]? = some (.i .u8 (n : Int)) := ⟨_, B_at h, rfl⟩
theorem B_leaf {ns : List Nat} {i n : Nat} (h : ns[i]? = some n) : ∃ x, (B ns)[i]? = some x ∧ x.leaf = true := ⟨_, B_at h, rfl⟩

/-- The first i and the last i are exchanged. -/
def revI (ns : List Nat) (i : Nat) : List Nat := (List.range ns.length).map fun j => if j < i ∨ ns.length < j + i + 1 then ns.getD (ns.length - 1 - j) 0 else ns.getD j 0
theorem revI_length (ns : List Nat) (i : Nat) : (revI ns i).length = ns.length := by simp [revI]
theorem revI_at {ns : List Nat} {i j : Nat} (h : j < ns.length) : (revI ns i)[j]? = some (if j < i ∨ ns.length < j + i + 1 then ns.getD (ns.length - 1 - j) 0 else ns.getD j 0) := by simp [revI, h]
theorem revI_zero (ns : List Nat) : revI ns 0 = ns := by
  apply List.ext_getElem?
  intro j
  by_cases h : j < ns.length
  · rw [revI_at h, if_neg (by omega), List.getD_eq_getElem?_getD, List.getElem?_eq_getElem h]; rfl
  · rw [List.getElem?_eq_none (by rw [revI_length]; omega), List.getElem?_eq_none (by omega)]
theorem revI_full (ns : List Nat) {i : Nat} (hi : ns.length ≤ 2 * i + 1) : revI ns i = ns.reverse := by
  apply List.ext_getElem?
  intro j
  by_cases h : j < ns.length
  · rw [revI_at h, List.getElem?_reverse h]
    by_cases hc : j < i ∨ ns.length < j + i + 1
    · rw [if_pos hc, List.getD_eq_getElem?_getD, List.getElem?_eq_getElem (by omega)]; rfl
    · have : ns.length - 1 - j = j := by omega
      rw [if_neg hc, this, List.getD_eq_getElem?_getD, List.getElem?_eq_getElem h]; rfl
  · rw [List.getElem?_eq_none (by rw [revI_length]; omega), List.getElem?_eq_none (by simp; omega)]
theorem revI_step (ns : List Nat) {i : Nat} (hi : 2 * i + 1 < ns.length) : ((revI ns i).set i (ns.getD (ns.length - 1 - i) 0)).set (ns.length - 1 - i) (ns.getD i 0) = revI ns (i + 1) := by
  apply List.ext_getElem?
  intro j
  by_cases h : j < ns.length
  · rw [revI_at h, List.getElem?_set, List.getElem?_set, revI_at h, List.length_set, revI_length]
    by_cases h1 : ns.length - 1 - i = j
    · rw [if_pos h1, if_pos (by omega), if_pos (by omega), ← h1, show ns.length - 1 - (ns.length - 1 - i) = i by omega]
    · rw [if_neg h1]
      by_cases h2 : i = j
      · rw [if_pos h2, if_pos (by omega), if_pos (by omega), h2]
      · rw [if_neg h2]
        by_cases hc : j < i ∨ ns.length < j + i + 1
        · rw [if_pos hc, if_pos (by omega)]
        · rw [if_neg hc, if_neg (by omega)]
  · rw [List.getElem?_eq_none (by simp [revI_length]; omega), List.getElem?_eq_none (by rw [revI_length]; omega)]

theorem Reverse_fn {H : Heap} {ns : List Nat} (hl : ns.length ≤ 1073741824) : FnG Try.prog 149 [.own 5 (B ns)] H (.tup []) [.own 5 (B ns.reverse)] H := by
  refine FnG.of (rs := []) 1 28 Try.func149 rfl rfl rfl (by simp) (by simp) (by simp) ?_
  refine .seq ?_
  refine .region ?_
  refine mvo ?_
  refine lnr ?_ l8
  refine su ((ns.length : Int) - 1) ?_ ?_
  · rw [B_length]; omega
  refine asd ?_
  refine asd ?_
  refine rn ?_
  refine .block ?_
  refine .loop (.gh (Gh.keep [0, 2, 3] rfl) ?_)
  refine AL.cast (env' := [(0, .own 5 (B (revI ns 0))), (2, .d (.i .i64 ((0 : Nat) : Int))), (3, .d (.i .i64 ((ns.length : Int) - 1 - ((0 : Nat) : Int))))]) (by rw [revI_zero]; simp; rfl) ?_
  refine AL.ind (σ := Nat) (m := fun i => ns.length - i) (e := fun i => [(0, .own 5 (B (revI ns i))), (2, .d (.i .i64 (i : Int))), (3, .d (.i .i64 ((ns.length : Int) - 1 - (i : Int))))]) (h := fun _ => H)
    (I := fun i => i ≤ ns.length) ?_ 0 (Nat.zero_le _)
  intro i h1 ih
  refine .seq ?_
  refine .seq ?_
  refine .region ?_
  refine mvd ?_
  refine mvd ?_
  refine bi ?_
  refine rn ?_
  by_cases hi : 2 * i + 1 < ns.length
  · rw [decide_eq_true (show (i:Int) < (ns.length : Int) - 1 - (i : Int) by omega)]
    refine cndt ?_
    refine .skip ?_
    show AW _ _ _ _ _ _
    have hjl : ns.length - 1 - i < ns.length := by omega
    have hxi : (revI ns i)[i]? = some (ns.getD i 0) := by rw [revI_at (by omega), if_neg (by omega)]
    have hxj : (revI ns i)[ns.length - 1 - i]? = some (ns.getD (ns.length - 1 - i) 0) := by rw [revI_at hjl, if_neg (by omega)]
    have hst := revI_step ns hi
    have hrl := revI_length ns i
    generalize ns.getD i 0 = x at *
    generalize ns.getD (ns.length - 1 - i) 0 = y at *
    refine .seq ?_
    refine .block ?_
    refine .drawnF 13 [2, 3] [(0, .own 5 ((B (revI ns i)).set i (.i .u8 (y : Int))))] H mixed (by kernel_rfl) rfl ?_
    refine dv vmvo ?_
    refine dv vmvd ?_
    refine dv vmvo ?_
    refine dv vmvd ?_
    refine dv vmvo ?_
    refine dv vmvd ?_
    refine dv (vixr (ns.length - 1 - i) ?_ ?_ s8 (by decide)) ?_
    · omega
    · rw [B_length, hrl]; omega
    refine dv (vlde (.i .u8 (y : Int)) ?_ a8) ?_
    · rw [Nat.zero_add]; exact B_at' hxj
    refine dv vmvo ?_
    refine dv vmvd ?_
    refine dv (vixr i ?_ ?_ s8 (by decide)) ?_
    · omega
    · rw [B_length, hrl]; omega
    refine dv (vlde (.i .u8 (x : Int)) ?_ a8) ?_
    · rw [Nat.zero_add]; exact B_at' hxi
    refine dv (vixr i ?_ ?_ s8 (by decide)) ?_
    · omega
    · rw [B_length, hrl]; omega
    refine dz ?_
    refine ⟨?_, ?_, ?_⟩
    · intro k hk
      simp only [List.mem_cons, List.not_mem_nil, or_false] at hk
      rcases hk with rfl | rfl
      · refine ⟨_, _, _, rfl, rfl, rfl, rfl, rfl, rfl, ?_⟩
        show VOK _ _ _ _ _ (.ref (.t 0) 0 (B (revI ns i)).length)
        rw [show (B (revI ns i)).length = ((B (revI ns i)).set i (.i .u8 (y : Int))).length by rw [List.length_set]]
        exact vmvo
      · exact ⟨_, _, _, rfl, rfl, rfl, rfl, rfl, rfl, vmvd⟩
    · intro om e hom hge
      cases hom
      have hnf : ∀ t, t ≠ 16 → t ≠ 17 → ∀ k ∈ [2, 3], ∀ v, ([(26, AV.ep (.t 0) (0 + i) 0), (25, .d (.i .u8 (x : Int))), (24, .ep (.t 0) (0 + i) 0), (23, .d (.i .i64 (i : Int))), (22, .ref (.t 0) 0 (B (revI ns i)).length), (21, .d (.i .u8 (y : Int))), (20, .ep (.t 0) (0 + (ns.length - 1 - i)) 0), (19, .d (.i .i64 ((ns.length : Int) - 1 - (i : Int)))), (18, .ref (.t 0) 0 (B (revI ns i)).length), (17, .d (.i .i64 ((ns.length : Int) - 1 - (i : Int)))), (16, .ref (.t 0) 0 (B (revI ns i)).length), (15, .d (.i .i64 (i : Int))), (14, .ref (.t 0) 0 (B (revI ns i)).length)] : Env).reverse[k]? ≠ some (t, v) := by
        intro t ht1 ht2 k hk v
        simp only [List.mem_cons, List.not_mem_nil, or_false] at hk
        rcases hk with rfl | rfl <;> simp [Ne.symm ht1, Ne.symm ht2]
      have g26 : get e 26 = .ep (.t 0) i 0 := (hge 26 (hnf 26 (by decide) (by decide))).trans (by show AV.ep (.t 0) (0 + i) 0 = _; rw [Nat.zero_add])
      have g21 : get e 21 = .d (.i .u8 (y : Int)) := hge 21 (hnf 21 (by decide) (by decide))
      have g0 : get e 0 = .own 5 (B (revI ns i)) := hge 0 (hnf 0 (by decide) (by decide))
      refine ok_st_ep (x := .tmp 26) (y := .tmp 21) (r := 26) (ay := .t 21) (p := .t 0) (i := i) (k := 0) (v := .i .u8 (y : Int)) (x' := .i .u8 (y : Int)) rfl rfl rfl rfl z8 g26 g0 (fun _ _ h => by cases h) g21 rfl ?_ ⟨rfl, rfl⟩
      rw [List.getD_eq_getElem?_getD, B_at hxi]; rfl
    · refine ixr (ns.length - 1 - i) ?_ ?_ ?_ s8 (by decide)
      · omega
      · rw [B_length, hrl]; omega
      refine ste ?_ ?_ z8
      · rw [Nat.zero_add]
        rw [B_set]
        exact B_leaf (n := y) (by rw [List.getElem?_set_ne (by omega)]; exact hxj)
      refine .nil ?_
      show AW _ _ _ _ _ _
      rw [Nat.zero_add, B_set, B_set, hst]
      refine .region ?_
      refine mvd ?_
      refine ad ((i + 1 : Nat) : Int) ?_ ?_
      · omega
      refine mvd ?_
      refine su ((ns.length : Int) - 1 - ((i + 1 : Nat) : Int)) ?_ ?_
      · omega
      refine asd ?_
      refine asd ?_
      refine rn ?_
      refine .gh (Gh.keep [0, 2, 3] rfl) ?_
      exact ih (i + 1) (by omega) (by omega)
  · rw [decide_eq_false (show ¬ ((i:Int) < (ns.length : Int) - 1 - (i : Int)) by omega)]
    refine cndf ?_
    refine .exit ?_
    refine ⟨⟨[], by simp⟩, rfl, ?_⟩
    intro k c hk
    cases k with
    | zero =>
      simp at hk; subst hk
      exact ⟨by rw [← revI_full ns (i := i) (by omega)]; rfl, rfl, by simp⟩
    | succ k => simp at hk
end Go.FL
/-
  Decimal digits, the last one first.
-/
namespace Go.FL
open Go Go.Proofs

def decR (n : Nat) : List Nat := if h : n = 0 then [] else (48 + n % 10) :: decR (n / 10)
termination_by n
decreasing_by omega
theorem decR_zero : decR 0 = [] := by unfold decR; simp
theorem decR_pos {n : Nat} (h : n ≠ 0) : decR n = (48 + n % 10) :: decR (n / 10) := by
  rw [decR]; simp [h]
/-- A number's text. -/
def decT (n : Nat) : List Nat := if n = 0 then [48] else (decR n).reverse
def dval : List Nat → Nat
  | [] => 0
  | x :: r => (x - 48) + 10 * dval r
def Dig (xs : List Nat) : Prop := ∀ x ∈ xs, 48 ≤ x ∧ x ≤ 57
theorem dval_append (a b : List Nat) : dval (a ++ b) = dval a + 10 ^ a.length * dval b := by
  induction a with
  | nil => simp [dval]
  | cons x r ih => simp only [List.cons_append, dval, ih, List.length_cons, Nat.pow_succ, Nat.mul_add]; rw [Nat.mul_comm (10 ^ r.length) 10, Nat.mul_assoc]; omega
/-- Digits are those of their value, and noughts behind. -/
theorem dig_pad : ∀ (xs : List Nat), Dig xs → ∃ k, xs = decR (dval xs) ++ List.replicate k 48
  | [], _ => ⟨0, by simp [dval, decR_zero]⟩
  | x :: r, h => by
    obtain ⟨k, hk⟩ := dig_pad r (fun y hy => h y (by simp [hy]))
    have hx := h x (by simp)
    by_cases h0 : x - 48 + 10 * dval r = 0
    · have h1 : dval r = 0 := by omega
      rw [h1, decR_zero] at hk
      refine ⟨k + 1, ?_⟩
      rw [dval, h0, decR_zero, List.replicate_succ, List.nil_append, show x = 48 by omega]
      congr 1
    · refine ⟨k, ?_⟩
      rw [dval, decR_pos h0, show (x - 48 + 10 * dval r) / 10 = dval r by omega, show 48 + (x - 48 + 10 * dval r) % 10 = x by omega, List.cons_append, ← hk]
theorem decR_last {n : Nat} (h : n ≠ 0) : ∃ xs x, decR n = xs ++ [x] ∧ x ≠ 48 := by
  induction n using Nat.strongRecOn with
  | ind n ih =>
    rw [decR_pos h]
    by_cases h1 : n / 10 = 0
    · rw [h1, decR_zero]
      exact ⟨[], _, rfl, by omega⟩
    · obtain ⟨xs, x, e, hx⟩ := ih (n / 10) (by omega) h1
      exact ⟨_ :: xs, x, by rw [e]; rfl, hx⟩
theorem decR_ne {n : Nat} (h : n ≠ 0) : decR n ≠ [] := by rw [decR_pos h]; simp
theorem decR_len {n k : Nat} (h : n < 10 ^ k) : (decR n).length ≤ k := by
  induction k generalizing n with
  | zero => simp at h; subst h; simp [decR_zero]
  | succ k ih =>
    by_cases h0 : n = 0
    · subst h0; simp [decR_zero]
    · rw [decR_pos h0, List.length_cons]
      have := ih (n := n / 10) (by rw [Nat.pow_succ] at h; omega)
      omega
end Go.FL
/-
  nat.Print.
-/
namespace Go.FL
open Go Go.Proofs

theorem z8p : 0 < szOf Try.prog 5 := by rw [z8]; decide
theorem tmod10 (n : Nat) : Int.tmod (n : Int) 10 = ((n % 10 : Nat) : Int) := rfl
theorem tdiv10 (n : Nat) : Int.tdiv (n : Int) 10 = ((n / 10 : Nat) : Int) := rfl
theorem Dig.snoc {xs : List Nat} {x : Nat} (h : Dig xs) (h1 : 48 ≤ x) (h2 : x ≤ 57) : Dig (xs ++ [x]) := by
  intro y hy
  rcases List.mem_append.1 hy with hy | hy
  · exact h y hy
  · simp at hy; subst hy; exact ⟨h1, h2⟩
theorem dval_snoc (xs : List Nat) (n : Nat) (M : Nat) : dval (xs ++ [48 + n % 10]) + 10 ^ (xs ++ [48 + n % 10]).length * (n / 10 + M) = dval xs + 10 ^ xs.length * (n + 10 * M) := by
  have e1 : (xs ++ [48 + n % 10]).length = xs.length + 1 := by simp
  have e2 : n + 10 * M = n % 10 + 10 * (n / 10 + M) := by omega
  have e3 : dval [48 + n % 10] = n % 10 := by simp [dval]
  rw [e1, e2, dval_append, e3, Nat.pow_succ, Nat.mul_add (10 ^ xs.length) (n % 10), Nat.mul_assoc, Nat.add_assoc]
theorem out_len {xs : List Nat} {m N l : Nat} (h : dval xs + 10 ^ xs.length * m = N) (hm : 0 < m) (hN : N < 4294967296 ^ l) : xs.length ≤ 32 * l := by
  have h1 : 10 ^ xs.length ≤ N := by
    have := Nat.mul_le_mul_left (10 ^ xs.length) hm
    omega
  have h2 : 2 ^ xs.length ≤ 10 ^ xs.length := Nat.pow_le_pow_left (by decide) _
  have h3 : 4294967296 ^ l = 2 ^ (32 * l) := by rw [Nat.pow_mul]
  rw [h3] at hN
  have h4 : 2 ^ xs.length < 2 ^ (32 * l) := by omega
  have := (Nat.pow_lt_pow_iff_right (a := 2) (by decide)).1 h4
  omega
theorem digs_ne {m : Nat} (h : 0 < m) : 0 < (digs m).length := by rw [digs_pos (by omega)]; simp
/-- While noughts stand behind, more than one. -/
theorem strip_step {N : Nat} {xs : List Nat} {k : Nat} (hN : N ≠ 0) (hx : xs = decR N ++ List.replicate k 48) :
    (k = 0 → ∃ x, xs[xs.length - 1]? = some x ∧ x ≠ 48) ∧ (k ≠ 0 → 1 < xs.length ∧ xs[xs.length - 1]? = some 48 ∧ xs.take (xs.length - 1) = decR N ++ List.replicate (k - 1) 48) := by
  refine ⟨fun h => ?_, fun h => ?_⟩
  · subst h
    obtain ⟨ys, y, e, hy⟩ := decR_last hN
    subst hx
    refine ⟨y, ?_, hy⟩
    rw [e]; simp
  · obtain ⟨j, rfl⟩ := Nat.exists_eq_succ_of_ne_zero h
    have hne := List.length_pos_iff.2 (decR_ne hN)
    have e : xs = (decR N ++ List.replicate j 48) ++ [48] := by rw [hx, List.replicate_succ', List.append_assoc]
    have hl : xs.length = (decR N ++ List.replicate j 48).length + 1 := by rw [e]; simp; omega
    have hl2 : (decR N ++ List.replicate j 48).length = (decR N).length + j := by simp
    refine ⟨by omega, ?_, ?_⟩
    · rw [hl, Nat.add_sub_cancel, e, List.getElem?_append_right (by omega), Nat.sub_self]; rfl
    · rw [hl, Nat.add_sub_cancel, e, List.take_left]; rfl

theorem Print_fn {a : List Nat} (h : Ok a) (hl : a.length ≤ 1048576) : Fn Try.prog 136 [.sl (L a)] (.d (.s (bstr (decT (val a))))) := by
  have hNl := val_lt h
  refine Fn.of (rs := [.tmp 2]) (nt := 60) Try.func136 rfl rfl rfl (by simp) rfl ?_
  refine .seq ?_
  refine .region ?_
  refine asd ?_
  refine rn ?_
  refine .seq ?_
  refine .region ?_
  refine asn ?_
  refine rn ?_
  refine .mid (fun e H' => ∃ out, e = [(3, .own 5 (B out))] ∧ H' = [] ∧ Dig out ∧ dval out = val a ∧ out.length ≤ 33554441 ∧ (val a = 0 → out = [])) ?_ ?_
  · refine .seq ?_
    refine .region ?_
    refine mvd ?_
    refine cl (xs := [.sl (L a)]) ?_ (Trim_fn h (by omega)) Try.call138
    refine aso ?_
    refine rn ?_
    refine .block ?_
    refine .gh (Gh.nlOwn (t := 3) 5 z8p rfl) ?_
    refine .gh (Gh.frz (p := .t 0) rfl (fun _ _ h => by cases h)) ?_
    refine .loop (.gh (Gh.keep [0, 3] rfl) ?_)
    refine AL.ind (σ := List Nat × Nat) (m := fun s => s.2) (e := fun s => [(0, .d (.sl (L (digs s.2)))), (3, .own 5 (B s.1))]) (h := fun _ => [])
      (I := fun s => Dig s.1 ∧ dval s.1 + 10 ^ s.1.length * s.2 = val a ∧ (s.1 ≠ [] → val a ≠ 0) ∧ s.1.length ≤ 33554441) ?_ ([], val a) ⟨by intro x hx; simp at hx, by simp [dval], by simp, by simp⟩
    rintro ⟨out, m⟩ ⟨h1, h2, h3, h3'⟩ ih
    dsimp only at h1 h2 h3 h3' ih ⊢
    refine .seq ?_
    refine .seq ?_
    refine .region ?_
    refine mvd ?_
    refine ln ?_ (L_sz _) l32
    refine bi ?_
    refine rn ?_
    by_cases hm : m = 0
    · subst hm
      rw [digs_zero]
      refine cndf ?_
      refine .gh (Gh.keep [3] rfl) ?_
      refine .exit ?_
      refine ⟨out, rfl, rfl, h1, by simpa using h2, h3', fun h0 => ?_⟩
      by_cases ho : out = []
      · exact ho
      · exact absurd h0 (h3 ho)
    · have hdl := digs_ne (show 0 < m by omega)
      rw [decide_eq_true (show (0:Int) < ((L (digs m)).length : Nat) by rw [L_length]; omega)]
      have hol := out_len h2 (by omega) hNl
      have hmN : m ≤ val a := by
        have := Nat.mul_le_mul_right m (Nat.pow_pos (n := out.length) (show 0 < 10 by decide))
        omega
      have hml : (digs m).length ≤ 1048576 := Nat.le_trans (digs_len (Nat.lt_of_le_of_lt hmN hNl)) hl
      have hvm := val_digs m
      refine cndt ?_
      refine .skip ?_
      show AW _ _ _ _ _ _
      refine .block ?_
      refine .seq ?_
      refine .region ?_
      refine mvd ?_
      refine cl (xs := [.sl (L (digs m)), .i .u32 ((1000000000 : Nat) : Int)]) ?_ (small_fn (d := 1000000000) (digs_ok m) hml (by decide) (by decide)) Try.call147
      refine mvt ?_
      refine ex ?_
      refine ex ?_
      refine asd ?_
      refine asd ?_
      refine rn ?_
      rw [hvm]
      have hr : m % 1000000000 < 1000000000 := Nat.mod_lt _ (by decide)
      have hq : m = m % 1000000000 + 1000000000 * (m / 1000000000) := by omega
      have hqlt : m / 1000000000 < m := by omega
      generalize m % 1000000000 = r at *
      generalize m / 1000000000 = q at *
      refine .seq ?_
      refine .region ?_
      refine mvd ?_
      have hrl : (digs r).length ≤ 1048576 := Nat.le_trans (digs_len (n := r) (k := 1) (by omega)) (by decide)
      refine cl (xs := [.sl (L (digs r))]) ?_ (Small_fn (digs_ok r) hrl) Try.call148
      refine mvt ?_
      refine ex ?_
      refine ex ?_
      refine asd ?_
      refine asd ?_
      refine rn ?_
      have hsm : smallN (digs r) = r := by
        unfold smallN; rw [val_digs, if_pos (bitsN_iff.2 (by omega))]
      rw [hsm]
      refine .mid (fun e H' => ∃ out', e = [(3, .own 5 (B out')), (4, .d (.sl (L (digs q))))] ∧ H' = [] ∧ Dig out' ∧ dval out' + 10 ^ out'.length * q = val a ∧ out'.length = out.length + 9) ?_ ?_
      · refine .seq ?_
        refine .region ?_
        refine mvd ?_
        refine rn ?_
        refine .block ?_
        refine .loop (.gh (Gh.keep [3, 4, 6, 23] rfl) ?_)
        refine AL.ind (σ := List Nat × Nat × Nat) (m := fun s => 9 - s.2.2) (e := fun s => [(3, .own 5 (B s.1)), (4, .d (.sl (L (digs q)))), (6, .d (.i .i64 (s.2.1 : Int))), (23, .d (.i .i64 (s.2.2 : Int)))]) (h := fun _ => [])
          (I := fun s => Dig s.1 ∧ s.2.2 ≤ 9 ∧ s.2.1 < 10 ^ (9 - s.2.2) ∧ dval s.1 + 10 ^ s.1.length * (s.2.1 + 10 ^ (9 - s.2.2) * q) = val a ∧ s.1.length = out.length + s.2.2) ?_ (out, r, 0) ⟨h1, by simp, by simpa using hr, by rw [← h2, hq]; rfl, by simp⟩
        rintro ⟨o2, n, j⟩ ⟨g1, g2, g3, g4, g5⟩ ih2
        dsimp only at g1 g2 g3 g4 g5 ih2 ⊢
        refine .seq ?_
        refine .region ?_
        refine bi ?_
        refine rn ?_
        refine .seq ?_
        by_cases hj : j < 9
        · rw [decide_eq_true (show (j:Int) < 9 by omega)]
          have hpj : 10 ^ (9 - j) = 10 * 10 ^ (9 - (j + 1)) := by rw [show 9 - j = (9 - (j + 1)) + 1 by omega, Nat.pow_succ, Nat.mul_comm]
          have hn9 : n < 1000000000 := Nat.lt_of_lt_of_le g3 (by
            have := Nat.pow_le_pow_right (n := 10) (by decide) (show 9 - j ≤ 9 by omega)
            exact this)
          refine cndt ?_
          refine .skip ?_
          show AW _ _ _ _ _ _
          refine .seq ?_
          refine .block ?_
          refine .seq ?_
          refine .region ?_
          refine mvo ?_
          refine mvd ?_
          refine bie (.i .i64 ((n % 10 : Nat) : Int)) ?_ ?_
          · exact ⟨by decide, by rw [tmod10]⟩
          refine ad ((48 + n % 10 : Nat) : Int) ?_ ?_
          · omega
          refine cve ((48 + n % 10 : Nat) : Int) (wrapU8 (by omega)) ?_ i64 u8
          refine bsl ?_ ?_ e8
          · simp [DV.flat, DV.cells, DV.leaf]
          refine apr ?_ ?_ (B_sz [48 + n % 10]) e8
          · rw [B_length, B_length]; simp; omega
          refine aso ?_
          refine rn ?_
          refine .region ?_
          refine mvd ?_
          refine bie (.i .i64 ((n / 10 : Nat) : Int)) ?_ ?_
          · refine ⟨by decide, ?_⟩
            rw [tdiv10, wraps_i64 _ (by omega) (by omega)]
          refine asd ?_
          refine .nil ?_
          show AW _ _ _ _ _ _
          refine .region ?_
          refine ad ((j + 1 : Nat) : Int) ?_ ?_
          · omega
          refine mvd ?_
          refine rn ?_
          refine .gh (Gh.keep [3, 4, 6, 23] rfl) ?_
          have hB : (B o2).take (B o2).length ++ [DV.i .u8 ((48 + n % 10 : Nat) : Int)] = B (o2 ++ [48 + n % 10]) := by rw [List.take_length, B_append]; rfl
          have := ih2 (o2 ++ [48 + n % 10], n / 10, j + 1) ⟨g1.snoc (by omega) (by omega), by dsimp only; omega, ?_, ?_, by simp; omega⟩ (by dsimp only; omega)
          · rw [← hB] at this; exact this
          · dsimp only
            rw [hpj] at g3
            exact Nat.div_lt_of_lt_mul g3
          · dsimp only
            rw [dval_snoc, ← g4, hpj, Nat.mul_assoc]
        · have hj9 : j = 9 := by omega
          subst hj9
          refine cndf ?_
          refine .gh (Gh.keep [3, 4] rfl) ?_
          refine .exit ?_
          have hn0 : n = 0 := by simpa using g3
          subst hn0
          refine ⟨o2, rfl, rfl, g1, by simpa using g4, g5⟩
      · rintro _ _ ⟨out', rfl, rfl, k1, k2, k3⟩
        refine .region ?_
        refine mvd ?_
        refine asd ?_
        refine .gh (Gh.keep [0, 3] rfl) ?_
        refine .nil ?_
        exact ih (out', q) ⟨k1, k2, fun _ => by omega, by dsimp only; omega⟩ hqlt
  rintro _ _ ⟨out, rfl, rfl, h1, h2, h3, h4⟩
  obtain ⟨k, hk⟩ := dig_pad out h1
  rw [h2] at hk
  refine .mid (fun e H' => e = [(3, .own 5 (B (decR (val a))))] ∧ H' = []) ?_ ?_
  · refine .block ?_
    refine .loop (.gh (Gh.keep [3] rfl) ?_)
    refine AL.ind (σ := List Nat × Nat) (m := fun s => s.2) (e := fun s => [(3, .own 5 (B s.1))]) (h := fun _ => [])
      (I := fun s => (val a = 0 → s.1 = []) ∧ s.1 = decR (val a) ++ List.replicate s.2 48 ∧ s.1.length ≤ 33554441) ?_ (out, k) ⟨h4, hk, h3⟩
    rintro ⟨xs, k⟩ ⟨g1, g2, g3⟩ ih
    dsimp only at g1 g2 g3 ih ⊢
    refine .seq ?_
    refine .seq ?_
    refine .region ?_
    refine mvo ?_
    refine lnr ?_ l8
    refine bi ?_
    refine mvd ?_
    by_cases hx : 1 < xs.length
    · have hN : val a ≠ 0 := fun h0 => by rw [g1 h0] at hx; simp at hx
      obtain ⟨s1, s2⟩ := strip_step hN g2
      rw [decide_eq_true (show (1:Int) < ((B xs).length : Nat) by rw [B_length]; omega)]
      refine mvo ?_
      refine mvo ?_
      refine lnr ?_ l8
      refine su ((xs.length - 1 : Nat) : Int) ?_ ?_
      · rw [B_length]; omega
      refine ixr (xs.length - 1) ?_ ?_ ?_ s8 (by decide)
      · rfl
      · rw [B_length]; omega
      by_cases hk0 : k = 0
      · obtain ⟨x, hx1, hx2⟩ := s1 hk0
        subst hk0
        refine lde (.i .u8 (x : Int)) ?_ ?_ a8
        · rw [Nat.zero_add]; exact B_at' hx1
        refine bi ?_
        rw [decide_eq_false (show ¬ ((x : Int) = 48) from fun h48 => hx2 (by exact_mod_cast h48))]
        refine pkd ?_
        refine rn ?_
        refine cndf ?_
        refine .gh (Gh.keep [3] rfl) ?_
        refine .exit ?_
        refine ⟨?_, rfl⟩
        rw [g2]; simp; rfl
      · obtain ⟨t1, t2, t3⟩ := s2 hk0
        refine lde (.i .u8 ((48 : Nat) : Int)) ?_ ?_ a8
        · rw [Nat.zero_add]; exact B_at' t2
        refine bi ?_
        refine pkd ?_
        refine rn ?_
        refine cndt ?_
        refine .skip ?_
        show AW _ _ _ _ _ _
        refine .gh (Gh.keep [3] rfl) ?_
        refine .block ?_
        refine .region ?_
        refine mvo ?_
        refine mvo ?_
        refine lnr ?_ l8
        refine su ((xs.length - 1 : Nat) : Int) ?_ ?_
        · rw [B_length]; omega
        refine slr 0 (xs.length - 1) ?_ ?_ s8
        · rw [B_length]; omega
        refine ass ?_
        refine .nil ?_
        refine .gh (Gh.keep [3] rfl) ?_
        have := ih (xs.take (xs.length - 1), k - 1) ⟨fun h0 => absurd h0 hN, t3, by rw [List.length_take]; omega⟩ (by dsimp only; omega)
        rw [← B_take] at this
        exact this
    · rw [decide_eq_false (show ¬ ((1:Int) < ((B xs).length : Nat)) by rw [B_length]; omega)]
      refine gf ?_
      refine gf ?_
      refine gf ?_
      refine gf ?_
      refine gf ?_
      refine gf ?_
      refine gf ?_
      refine pkd ?_
      refine rn ?_
      refine cndf ?_
      refine .gh (Gh.keep [3] rfl) ?_
      refine .exit ?_
      refine ⟨?_, rfl⟩
      by_cases hN : val a = 0
      · rw [g1 hN, hN, decR_zero]; rfl
      · have : k = 0 := by
          by_cases hk0 : k = 0
          · exact hk0
          · exact absurd ((strip_step hN g2).2 hk0).1 hx
        subst this
        rw [g2]; simp; rfl
  rintro _ _ ⟨rfl, rfl⟩
  have hdl : (decR (val a)).length ≤ 33554441 := by rw [hk] at h3; simp at h3; omega
  refine .seq ?_
  refine .seq ?_
  refine .region ?_
  refine mvo ?_
  refine lnr ?_ l8
  refine bi ?_
  refine rn ?_
  by_cases hN : val a = 0
  · rw [hN, decR_zero]
    refine cndt ?_
    refine .seq ?_
    refine .region ?_
    refine asd ?_
    refine rn ?_
    refine .ret ?_
    exact ⟨rfl, rfl⟩
  · have hpos := List.length_pos_iff.2 (decR_ne hN)
    rw [decide_eq_false (show ¬ (((B (decR (val a))).length : Nat) : Int) = 0 by rw [B_length]; omega)]
    refine cndf ?_
    refine .skip ?_
    show AW _ _ _ _ _ _
    refine .seq ?_
    refine .gh (Gh.keep [3] rfl) ?_
    refine .region ?_
    refine mvo ?_
    refine clg1 (B (decR (val a)).reverse) (fun G => ?_) (Reverse_fn (by omega)) Try.call149
    refine rn ?_
    refine .seq ?_
    refine .region ?_
    refine fz (p := .t 3) ?_
    refine mvd ?_
    refine cvs (ns := (decR (val a)).reverse) q8 u8 st ?_ ?_
    · simpa using decR_ne hN
    refine asd ?_
    refine rn ?_
    refine .ret ?_
    exact ⟨by unfold decT; rw [if_neg hN]; rfl, rfl⟩
end Go.FL
/-
  nat.Compare.
-/
namespace Go.FL
open Go Go.Proofs

def cmpN (m n : Nat) : Int := if m < n then -1 else if m = n then 0 else 1
theorem digs_lt {m n : Nat} (h : (digs m).length < (digs n).length) : m < n := by
  rcases Nat.lt_or_ge m n with h1 | h1
  · exact h1
  · have h2 := val_lt (digs_ok m)
    rw [val_digs] at h2
    have := digs_len (n := n) (k := (digs m).length) (by omega)
    omega
/-- Behind equal limbs, the limb decides. -/
theorem cmp_at {xs ys : List Nat} (hx : Ok xs) (hy : Ok ys) {i : Nat} (h : xs.drop (i + 1) = ys.drop (i + 1)) {x y : Nat} (h1 : xs[i]? = some x) (h2 : ys[i]? = some y) (hxy : x < y) : val xs < val ys := by
  have hxl : i < xs.length := (List.getElem?_eq_some_iff.1 h1).1
  have hyl : i < ys.length := (List.getElem?_eq_some_iff.1 h2).1
  have ex : xs = xs.take i ++ x :: xs.drop (i + 1) := by
    have := List.getElem?_eq_some_iff.1 h1
    rw [← this.2, ← List.drop_eq_getElem_cons hxl, List.take_append_drop]
  have ey : ys = ys.take i ++ y :: ys.drop (i + 1) := by
    have := List.getElem?_eq_some_iff.1 h2
    rw [← this.2, ← List.drop_eq_getElem_cons hyl, List.take_append_drop]
  have lx : (xs.take i).length = i := by rw [List.length_take]; omega
  have ly : (ys.take i).length = i := by rw [List.length_take]; omega
  have vx := val_lt (hx.take i)
  rw [ex, ey, val_append, val_append, lx, ly, h]
  rw [lx] at vx
  simp only [val]
  have h3 : 4294967296 ^ i * (x + 4294967296 * val (ys.drop (i + 1))) + 4294967296 ^ i ≤ 4294967296 ^ i * (y + 4294967296 * val (ys.drop (i + 1))) := by
    rw [← Nat.mul_succ]
    exact Nat.mul_le_mul_left _ (by omega)
  omega
end Go.FL
/-
  nat.DivMod by one limb; live.
-/
namespace Go.FL
open Go Go.Proofs

theorem one_limb {n : Nat} (h0 : 0 < n) (h : n < 4294967296) : digs n = [n] := by
  rw [digs_pos (by omega), Nat.mod_eq_of_lt h, Nat.div_eq_of_lt h, digs_zero]
end Go.FL
/-
  (*nat.limbs).add: a number is added at a place.
-/
namespace Go.FL
open Go Go.Proofs

theorem val_set : ∀ {xs : List Nat} {i x y : Nat}, xs[i]? = some x → val (xs.set i y) + x * 4294967296 ^ i = val xs + y * 4294967296 ^ i := by
  intro xs
  induction xs with
  | nil => intro i x y h; simp at h
  | cons z zs ih =>
    intro i x y h
    cases i with
    | zero => simp at h; subst h; simp only [List.set_cons_zero, val, Nat.pow_zero, Nat.mul_one]; omega
    | succ i =>
      have := ih (y := y) (by simpa using h)
      simp only [List.set_cons_succ, val, Nat.pow_succ]
      have e1 : x * (4294967296 ^ i * 4294967296) = 4294967296 * (x * 4294967296 ^ i) := by rw [← Nat.mul_assoc, Nat.mul_comm]
      have e2 : y * (4294967296 ^ i * 4294967296) = 4294967296 * (y * 4294967296 ^ i) := by rw [← Nat.mul_assoc, Nat.mul_comm]
      rw [e1, e2]; omega
/-- A box whose cell holds limbs. -/
abbrev hb (H : Heap) (id off : Nat) (cs : List AV) (xs : List Nat) : Heap := H.set id (.box (cs.set off (.own 125 (L xs))))
end Go.FL
/-
  (*nat.limbs).add: the walk.
-/
namespace Go.FL
open Go Go.Proofs

end Go.FL
/-
  (*nat.adder).number.
-/
namespace Go.FL
open Go Go.Proofs

end Go.FL
/-
  nat.Sum.
-/
namespace Go.FL
open Go Go.Proofs

theorem s2 : sliceT Try.prog 106 = some (33, 1, 24) := by kernel_rfl
theorem l2 : Try.prog.underlying 106 = some (.slice (Try.prog.elem 106)) := by kernel_rfl
theorem a2 : aggT Try.prog 33 = some false := by kernel_rfl
def LL (ls : List (List Nat)) : List DV := ls.map fun a => .sl (L a)
theorem LL_length (ls : List (List Nat)) : (LL ls).length = ls.length := by simp [LL]
theorem LL_sz (ls : List (List Nat)) : ∃ sz, ∀ x ∈ LL ls, x.cells.length = sz := ⟨1, fun x hx => by
  simp only [LL, List.mem_map] at hx
  obtain ⟨n, _, rfl⟩ := hx; rfl⟩
theorem LL_at {ls : List (List Nat)} {i : Nat} {a : List Nat} (h : ls[i]? = some a) : (LL ls)[i]? = some (.sl (L a)) := by simp [LL, h]
end Go.FL
/-
  nat.product.
-/
namespace Go.FL
open Go Go.Proofs

end Go.FL
/-
  nat.product: how many limbs; nat.Product.
-/
namespace Go.FL
open Go Go.Proofs

end Go.FL
/-
  nat.Product.
-/
namespace Go.FL
open Go Go.Proofs

end Go.FL
/-
  What laws need: arguments as limbs; how many limbs sums and products have.
-/
namespace Go.FL
open Go Go.Proofs

theorem e2 : elemT Try.prog 106 = some (33, 1, 24, .slice none 0 0) := by kernel_rfl
end Go.FL
/-
  Bits of products; arguments; a number is the same as itself.
-/
namespace Go.FL
open Go Go.Proofs

theorem bits_len {x : List Nat} {k : Nat} (h : Ok x) (hl : x.length ≤ k) : bitsN (val x) ≤ 32 * k := bitsN_iff.2 (by
  rw [Nat.pow_mul]
  exact Nat.lt_of_lt_of_le (val_lt h) (Nat.pow_le_pow_right (by decide) hl))
end Go.FL
/-
  glyphref01: Right, Small.
-/
namespace Go.FL
open Go Go.Proofs

theorem right_last {b : List Nat} {x : Nat} (h : Ok (b ++ [x])) : (digs (val (b ++ [x])) = b ++ [x]) ↔ x ≠ 0 := by
  constructor
  · intro he h0
    subst h0
    rw [← cutL_val h, cutL_zero] at he
    have hb : Ok b := fun y hy => h y (by simp [hy])
    rw [cutL_val hb] at he
    have h1 := digs_len_le hb
    rw [he] at h1
    simp at h1
    omega
  · intro h0
    rw [← cutL_val h, cutL_pos _ h0]
theorem refRight_fn {a : List Nat} (h : Ok a) (hl : a.length ≤ 35184372087808) : Fn Try.prog 80 [.sl (L a)] (.d (.b (decide (digs (val a) = a)))) := by
  refine Fn.of (rs := [.tmp 2]) (nt := 15) Try.func80 rfl rfl rfl (by simp) rfl ?_
  refine .seq ?_
  refine .region ?_
  refine asd ?_
  refine rn ?_
  refine .seq ?_
  refine .region ?_
  refine mvd ?_
  refine ln ?_ (L_sz _) l32
  refine bi ?_
  refine mvd ?_
  rcases List.eq_nil_or_concat a with rfl | ⟨b, x, rfl⟩
  · refine gf ?_
    refine gf ?_
    refine gf ?_
    refine gf ?_
    refine gf ?_
    refine gf ?_
    refine gf ?_
    refine pkd ?_
    refine asd ?_
    refine rn ?_
    refine .ret ?_
    exact ⟨by rw [decide_eq_true (show digs (val []) = [] by rw [val, digs_zero])]; rfl, rfl⟩
  · rw [List.concat_eq_append] at *
    have hll : (b ++ [x]).length = b.length + 1 := by simp
    rw [decide_eq_false (show ¬ ((L (b ++ [x])).length : Int) = 0 by rw [L_length]; omega)]
    refine mvd ?_
    refine mvd ?_
    refine ln ?_ (L_sz _) l32
    refine su (b.length : Int) ?_ ?_
    · rw [L_length]; omega
    refine ix b.length ?_ rfl (L_at (xs := b ++ [x]) (n := x) (by simp)) rfl s32
    refine ldp ?_ a32
    refine bi ?_
    refine pkd ?_
    refine asd ?_
    refine rn ?_
    refine .ret ?_
    refine ⟨?_, rfl⟩
    show AV.d (.b (!decide ((x : Int) = 0))) = _
    congr 2
    rw [decide_eq_decide.2 (right_last h)]
    by_cases h0 : x = 0
    · subst h0; rfl
    · rw [decide_eq_true h0, decide_eq_false (by omega)]; rfl
end Go.FL
/-
  glyphref01.Mul.
-/
namespace Go.FL
open Go Go.Proofs

theorem drop_val {b : List Nat} (k : Nat) : val (b.drop k) = b.getD k 0 + 4294967296 * val (b.drop (k + 1)) := by
  by_cases h : k < b.length
  · rw [List.drop_eq_getElem_cons h, List.getD_eq_getElem?_getD, List.getElem?_eq_getElem h]; simp only [val, Option.getD_some]
  · rw [List.drop_eq_nil_of_le (by omega), List.drop_eq_nil_of_le (by omega), List.getD_eq_getElem?_getD, List.getElem?_eq_none (by omega)]; simp [val]
theorem getD_lt {b : List Nat} (h : Ok b) (k : Nat) : b.getD k 0 < 4294967296 := by
  rw [List.getD_eq_getElem?_getD]
  cases hk : b[k]? with
  | none => decide
  | some y => exact h.at hk
theorem set_val {xs : List Nat} {j o y : Nat} (h : xs[j]? = some o) : val (xs.set j y) + o * 4294967296 ^ j = val xs + y * 4294967296 ^ j := val_set h
theorem rep_val : ∀ n, val (List.replicate n 0) = 0
  | 0 => rfl
  | n + 1 => by rw [List.replicate_succ, val, rep_val n]
theorem rep_ok (n : Nat) : Ok (List.replicate n 0) := fun x hx => by rw [List.eq_of_mem_replicate hx]; decide

end Go.FL
/-
  glyphref01: Add, Compare, Minus.
-/
namespace Go.FL
open Go Go.Proofs

theorem add_step {V P x y c A A' B B' s q r : Nat} (hs : s = x + y + c) (hq : s = 4294967296 * q + r) (hA : A = x + 4294967296 * A') (hB : B = y + 4294967296 * B') : (V + P * r) + (A' + B' + q) * (P * 4294967296) = V + (A + B + c) * P := by
  grind
theorem val_snoc (xs : List Nat) (y : Nat) : val (xs ++ [y]) = val xs + 4294967296 ^ xs.length * y := by rw [val_append]; simp [val]
theorem Ok.snoc {xs : List Nat} {y : Nat} (h : Ok xs) (hy : y < 4294967296) : Ok (xs ++ [y]) := h.append (by intro x hx; simp at hx; subst hx; exact hy)
theorem L_snoc (xs : List Nat) (y : Nat) : (L xs).take (L xs).length ++ [DV.i .u32 (y : Int)] = L (xs ++ [y]) := by rw [List.take_length, L_append]; rfl

theorem Add_fn {a b : List Nat} (ha : Ok a) (hb : Ok b) (hla : a.length ≤ 500000) (hlb : b.length ≤ 500000) : Fn Try.prog 142 [.sl (L a), .sl (L b)] (.own 125 (L (digs (val a + val b)))) := by
  refine Fn.of (rs := [.tmp 4]) (nt := 43) Try.func142 rfl rfl rfl (by simp) rfl ?_
  refine .seq ?_
  refine .region ?_
  refine asn ?_
  refine rn ?_
  refine .seq ?_
  refine .region ?_
  refine asn ?_
  refine rn ?_
  refine .seq ?_
  refine .region ?_
  refine asd ?_
  refine rn ?_
  refine .mid (fun e H' => ∃ out, e = [(5, .own 125 (L out))] ∧ H' = [] ∧ Ok out ∧ out.length ≤ a.length + b.length + 1 ∧ val out = val a + val b) ?_ ?_
  · refine .seq ?_
    refine .region ?_
    refine asd ?_
    refine rn ?_
    refine .block ?_
    refine .gh (Gh.nlOwn (t := 5) 125 z32p rfl) ?_
    refine .loop (.gh (Gh.keep [0, 1, 5, 6, 7] rfl) ?_)
    refine AL.ind (σ := List Nat × Nat) (m := fun s => (a.length + b.length - s.1.length) * 2 + s.2) (e := fun s => [(0, .d (.sl (L a))), (1, .d (.sl (L b))), (5, .own 125 (L s.1)), (6, .d (.i .u64 (s.2 : Int))), (7, .d (.i .i64 (s.1.length : Int)))]) (h := fun _ => [])
      (I := fun s => Ok s.1 ∧ s.2 ≤ 1 ∧ s.1.length + s.2 ≤ a.length + b.length + 1 ∧ val s.1 + (val (a.drop s.1.length) + val (b.drop s.1.length) + s.2) * 4294967296 ^ s.1.length = val a + val b) ?_ ([], 0) ⟨.nil, by simp, by simp, by simp [val]⟩
    rintro ⟨out, c⟩ ⟨h1, h2, h3, h4⟩ ih
    dsimp only at h1 h2 h3 h4 ih ⊢
    refine .mid (fun e H' => H' = [] ∧ (out.length < a.length ∨ out.length < b.length ∨ c = 1) ∧ e = [(0, .d (.sl (L a))), (1, .d (.sl (L b))), (5, .own 125 (L out)), (6, .d (.i .u64 (c : Int))), (7, .d (.i .i64 (out.length : Int)))]) ?_ ?_
    · refine .seq ?_
      refine .region ?_
      refine mvd ?_
      refine mvd ?_
      refine ln ?_ (L_sz _) l32
      refine bi ?_
      refine mvd ?_
      by_cases hA : out.length < a.length
      · rw [decide_eq_true (show (out.length : Int) < ((L a).length : Nat) by rw [L_length]; omega)]
        refine gf ?_
        refine gf ?_
        refine gf ?_
        refine gf ?_
        refine pkd ?_
        refine mvd ?_
        refine gf ?_
        refine gf ?_
        refine pkd ?_
        refine rn ?_
        refine cndt ?_
        refine .gh (Gh.keep [0, 1, 5, 6, 7] rfl) ?_
        refine .skip ?_
        exact ⟨rfl, .inl hA, rfl⟩
      · rw [decide_eq_false (show ¬ (out.length : Int) < ((L a).length : Nat) by rw [L_length]; omega)]
        refine mvd ?_
        refine mvd ?_
        refine ln ?_ (L_sz _) l32
        refine bi ?_
        refine pkd ?_
        refine mvd ?_
        by_cases hB : out.length < b.length
        · rw [decide_eq_true (show (out.length : Int) < ((L b).length : Nat) by rw [L_length]; omega)]
          refine gf ?_
          refine gf ?_
          refine pkd ?_
          refine rn ?_
          refine cndt ?_
          refine .gh (Gh.keep [0, 1, 5, 6, 7] rfl) ?_
          refine .skip ?_
          exact ⟨rfl, .inr (.inl hB), rfl⟩
        · rw [decide_eq_false (show ¬ (out.length : Int) < ((L b).length : Nat) by rw [L_length]; omega)]
          refine mvd ?_
          refine bi ?_
          refine pkd ?_
          refine rn ?_
          by_cases hc : c = 0
          · subst hc
            refine cndf ?_
            refine .gh (Gh.keep [5] rfl) ?_
            refine .exit ?_
            refine ⟨out, rfl, rfl, h1, by omega, ?_⟩
            rw [List.drop_eq_nil_of_le (by omega), List.drop_eq_nil_of_le (by omega)] at h4
            simpa [val] using h4
          · rw [decide_eq_true (show (0 : Int) < (c : Int) by omega)]
            refine cndt ?_
            refine .gh (Gh.keep [0, 1, 5, 6, 7] rfl) ?_
            refine .skip ?_
            exact ⟨rfl, .inr (.inr (by omega)), rfl⟩
    rintro _ _ ⟨rfl, hgo, rfl⟩
    have hxl := getD_lt ha out.length
    have hyl := getD_lt hb out.length
    have hdx := drop_val (b := a) out.length
    have hdy := drop_val (b := b) out.length
    have f1 := limb_fn (a := a) ha (i := out.length) (by omega)
    have f2 := limb_fn (a := b) hb (i := out.length) (by omega)
    have hz : ¬ out.length < a.length → ¬ out.length < b.length → a.getD out.length 0 = 0 ∧ b.getD out.length 0 = 0 := fun h5 h6 => by
      rw [List.getD_eq_getElem?_getD, List.getD_eq_getElem?_getD, List.getElem?_eq_none (by omega), List.getElem?_eq_none (by omega)]; simp
    generalize a.getD out.length 0 = x at *
    generalize b.getD out.length 0 = y at *
    have hstep := add_step (V := val out) (P := 4294967296 ^ out.length) (x := x) (y := y) (c := c) (s := x + y + c) (q := (x + y + c) / 4294967296) (r := (x + y + c) % 4294967296) rfl (Nat.div_add_mod _ _).symm hdx hdy
    refine .seq ?_
    refine .block ?_
    refine .seq ?_
    refine .region ?_
    refine mvd ?_
    refine mvd ?_
    refine cl (xs := [.sl (L a), .i .i64 (out.length : Int)]) ?_ f1 Try.call156
    refine mvd ?_
    refine mvd ?_
    refine cl (xs := [.sl (L b), .i .i64 (out.length : Int)]) ?_ f2 Try.call156
    refine bie (.i .u64 ((x + y : Nat) : Int)) ?_ ?_
    · exact ⟨trivial, by rw [← Int.natCast_add, toU64 (by omega)]⟩
    refine mvd ?_
    refine bie (.i .u64 ((x + y + c : Nat) : Int)) ?_ ?_
    · exact ⟨trivial, by rw [← Int.natCast_add, toU64 (by omega)]⟩
    refine asd ?_
    refine rn ?_
    have hs2 : x + y + c < 8589934592 := by omega
    have hcz : ¬ out.length < a.length → ¬ out.length < b.length → (x + y + c) / 4294967296 = 0 := fun h5 h6 => by
      obtain ⟨e1, e2⟩ := hz h5 h6
      omega
    generalize x + y + c = s at *
    refine .seq ?_
    refine .region ?_
    refine mvo ?_
    refine mvd ?_
    refine cve ((s % 4294967296 : Nat) : Int) (wrapU32 _) ?_ u64 u32
    refine bsl ?_ ?_ e32
    · simp [DV.flat, DV.cells, DV.leaf]
    refine apr ?_ ?_ (L_sz1 [s % 4294967296]) e32
    · simp [L_length]; omega
    refine aso ?_
    refine rn ?_
    refine .region ?_
    refine mvd ?_
    refine bie (.i .u64 ((s / 4294967296 : Nat) : Int)) ?_ ?_
    · simp [IntKind.bits]
    refine asd ?_
    refine .nil ?_
    show AW _ _ _ _ _ _
    refine .region ?_
    refine mvd ?_
    refine ad ((out.length + 1 : Nat) : Int) ?_ ?_
    · omega
    refine asd ?_
    refine rn ?_
    refine .gh (Gh.keep [0, 1, 5, 6, 7] rfl) ?_
    have := ih (out ++ [s % 4294967296], s / 4294967296) ⟨h1.snoc (Nat.mod_lt _ (by decide)), by dsimp only; omega, ?_, ?_⟩ ?_
    · rw [← L_snoc] at this
      dsimp only at this
      rw [List.length_append] at this
      exact this
    · dsimp only
      rw [List.length_append, List.length_singleton]
      by_cases h5 : out.length < a.length ∨ out.length < b.length
      · omega
      · have := hcz (fun h => h5 (.inl h)) (fun h => h5 (.inr h)); omega
    · dsimp only
      rw [val_snoc, List.length_append, List.length_singleton, Nat.pow_succ, hstep, h4]
    · dsimp only
      rw [List.length_append, List.length_singleton]
      by_cases h5 : out.length < a.length ∨ out.length < b.length
      · omega
      · have := hcz (fun h => h5 (.inl h)) (fun h => h5 (.inr h)); omega
  rintro _ _ ⟨out, rfl, rfl, h1, h2, h3⟩
  refine .seq ?_
  refine .region ?_
  refine fz (p := .t 5) ?_
  refine mvd ?_
  refine cl (xs := [.sl (L out)]) ?_ (refTrim_fn h1 (by omega)) Try.call116
  rw [h3]
  refine aso ?_
  refine rn ?_
  refine .ret ?_
  exact ⟨rfl, rfl⟩
end Go.FL
/-
  glyphref01: Compare, Minus.
-/
namespace Go.FL
open Go Go.Proofs

theorem refCompare_fn {a b : List Nat} (ha : Ok a) (hb : Ok b) (hla : a.length ≤ 35184372087808) (hlb : b.length ≤ 35184372087808) : Fn Try.prog 81 [.sl (L a), .sl (L b)] (.d (.i .i64 (cmpN (val a) (val b)))) := by
  have dla := Nat.le_trans (digs_len_le ha) hla
  have dlb := Nat.le_trans (digs_len_le hb) hlb
  have va := val_digs (val a)
  have vb := val_digs (val b)
  have oa := digs_ok (val a)
  have ob := digs_ok (val b)
  have lt1 := @digs_lt (val a) (val b)
  have lt2 := @digs_lt (val b) (val a)
  refine Fn.of (rs := [.tmp 4]) (nt := 47) Try.func81 rfl rfl rfl (by simp) rfl ?_
  refine .seq ?_
  refine .region ?_
  refine asd ?_
  refine rn ?_
  refine .seq ?_
  refine .region ?_
  refine mvd ?_
  refine cl (xs := [.sl (L a)]) ?_ (refTrim_fn ha (by omega)) Try.call116
  refine mvd ?_
  refine cl (xs := [.sl (L b)]) ?_ (refTrim_fn hb (by omega)) Try.call116
  refine aso ?_
  refine aso ?_
  refine rn ?_
  refine .gh (Gh.frz (p := .t 5) rfl (fun _ _ h => by cases h)) ?_
  refine .gh (Gh.frz (p := .t 6) rfl (fun _ _ h => by cases h)) ?_
  refine .gh (Gh.keep [5, 6] rfl) ?_
  generalize digs (val a) = xs at *
  generalize digs (val b) = ys at *
  refine .seq ?_
  refine .seq ?_
  refine .region ?_
  refine mvd ?_
  refine ln ?_ (L_sz _) l32
  refine mvd ?_
  refine ln ?_ (L_sz _) l32
  refine bi ?_
  refine rn ?_
  by_cases hlen : xs.length = ys.length
  · have e1 : (!decide (((L xs).length : Int) = ((L ys).length : Int))) = false := by simp [L_length]; omega
    rw [e1]
    refine cndf ?_
    refine .skip ?_
    show AW _ _ _ _ _ _
    refine .seq ?_
    refine .seq ?_
    refine .region ?_
    refine mvd ?_
    refine ln ?_ (L_sz _) l32
    refine su ((xs.length : Int) - 1) ?_ ?_
    · rw [L_length]; omega
    refine asd ?_
    refine rn ?_
    refine .block ?_
    refine .loop (.gh (Gh.keep [5, 6, 7] rfl) ?_)
    refine AL.ind (σ := Nat) (m := fun i => i) (e := fun i => [(5, .d (.sl (L xs))), (6, .d (.sl (L ys))), (7, .d (.i .i64 ((i : Int) - 1)))]) (h := fun _ => [])
      (I := fun i => i ≤ xs.length ∧ xs.drop i = ys.drop i) ?_ xs.length ⟨Nat.le_refl _, by rw [List.drop_of_length_le (Nat.le_refl _), List.drop_of_length_le (by omega)]⟩
    rintro i ⟨h1, h2⟩ ih
    refine .seq ?_
    refine .seq ?_
    refine .region ?_
    refine mvd ?_
    refine bi ?_
    refine rn ?_
    cases i with
    | zero =>
      rw [decide_eq_false (show ¬ (0 : Int) ≤ ((0 : Nat) : Int) - 1 by omega)]
      refine cndf ?_
      refine .exit ?_
      show AW _ _ _ _ _ _
      refine .seq ?_
      refine .region ?_
      refine asd ?_
      refine rn ?_
      refine .ret ?_
      simp only [List.drop_zero] at h2
      subst h2
      exact ⟨by rw [← va, ← vb]; unfold cmpN; rw [if_neg (by omega), if_pos rfl]; rfl, rfl⟩
    | succ i =>
      have hx : xs[i]? = some xs[i] := List.getElem?_eq_getElem (by omega)
      have hy : ys[i]? = some ys[i] := List.getElem?_eq_getElem (by omega)
      have hdx : xs.drop i = xs[i] :: xs.drop (i + 1) := List.drop_eq_getElem_cons (by omega)
      have hdy : ys.drop i = ys[i] :: ys.drop (i + 1) := List.drop_eq_getElem_cons (by omega)
      generalize xs[i] = x at hx hdx
      generalize ys[i] = y at hy hdy
      rw [decide_eq_true (show (0 : Int) ≤ ((i + 1 : Nat) : Int) - 1 by omega)]
      refine cndt ?_
      refine .skip ?_
      show AW _ _ _ _ _ _
      refine .gh (Gh.keep [5, 6, 7] rfl) ?_
      refine .seq ?_
      refine .block ?_
      refine .seq ?_
      refine .seq ?_
      refine .drawn 9 mixed (by kernel_rfl) ?_
      refine dv vmvd ?_
      refine dv vmvd ?_
      refine dv (vix (z := ((i + 1 : Nat) : Int) - 1) i (by omega) (L_at hx) rfl s32) ?_
      refine dv (vldp a32) ?_
      refine dv vmvd ?_
      refine dv vmvd ?_
      refine dv (vix (z := ((i + 1 : Nat) : Int) - 1) i (by omega) (L_at hy) rfl s32) ?_
      refine dv (vldp a32) ?_
      refine dv vbi ?_
      refine dz ?_
      refine rn ?_
      by_cases hlt : x < y
      · rw [decide_eq_true (show (x : Int) < (y : Int) by omega)]
        refine cndt ?_
        refine .seq ?_
        refine .region ?_
        refine asd ?_
        refine rn ?_
        refine .ret ?_
        have := cmp_at oa ob h2 hx hy hlt
        exact ⟨by unfold cmpN; rw [if_pos (by omega)]; rfl, rfl⟩
      · rw [decide_eq_false (show ¬ (x : Int) < (y : Int) by omega)]
        refine cndf ?_
        refine .skip ?_
        show AW _ _ _ _ _ _
        refine .gh (Gh.keep [5, 6, 7] rfl) ?_
        refine .seq ?_
        refine .drawn 9 mixed (by kernel_rfl) ?_
        refine dv vmvd ?_
        refine dv vmvd ?_
        refine dv (vix (z := ((i + 1 : Nat) : Int) - 1) i (by omega) (L_at hx) rfl s32) ?_
        refine dv (vldp a32) ?_
        refine dv vmvd ?_
        refine dv vmvd ?_
        refine dv (vix (z := ((i + 1 : Nat) : Int) - 1) i (by omega) (L_at hy) rfl s32) ?_
        refine dv (vldp a32) ?_
        refine dv vbi ?_
        refine dz ?_
        refine rn ?_
        by_cases hgt : y < x
        · rw [decide_eq_true (show (y : Int) < (x : Int) by omega)]
          refine cndt ?_
          refine .seq ?_
          refine .region ?_
          refine asd ?_
          refine rn ?_
          refine .ret ?_
          have := cmp_at ob oa h2.symm hy hx hgt
          exact ⟨by unfold cmpN; rw [if_neg (by omega), if_neg (by omega)]; rfl, rfl⟩
        · have hxy : x = y := by omega
          subst hxy
          rw [decide_eq_false (show ¬ (x : Int) < (x : Int) by omega)]
          refine cndf ?_
          refine .skip ?_
          show AW _ _ _ _ _ _
          refine .gh (Gh.keep [5, 6, 7] rfl) ?_
          refine .region ?_
          refine mvd ?_
          refine su ((i : Int) - 1) ?_ ?_
          · omega
          refine asd ?_
          refine rn ?_
          refine .gh (Gh.keep [5, 6, 7] rfl) ?_
          exact ih i ⟨by omega, by rw [hdx, hdy, h2]⟩ (by omega)
  · have e1 : (!decide (((L xs).length : Int) = ((L ys).length : Int))) = true := by simp [L_length]; omega
    rw [e1]
    refine cndt ?_
    refine .seq ?_
    refine .seq ?_
    refine .region ?_
    refine mvd ?_
    refine ln ?_ (L_sz _) l32
    refine mvd ?_
    refine ln ?_ (L_sz _) l32
    refine bi ?_
    refine rn ?_
    by_cases hl : xs.length < ys.length
    · have h1 := lt1 hl
      rw [decide_eq_true (show (((L xs).length : Nat) : Int) < ((L ys).length : Nat) by rw [L_length, L_length]; omega)]
      refine cndt ?_
      refine .seq ?_
      refine .region ?_
      refine asd ?_
      refine rn ?_
      refine .ret ?_
      exact ⟨by unfold cmpN; rw [if_pos (by omega)]; rfl, rfl⟩
    · have h1 := lt2 (by omega)
      rw [decide_eq_false (show ¬ (((L xs).length : Nat) : Int) < ((L ys).length : Nat) by rw [L_length, L_length]; omega)]
      refine cndf ?_
      refine .skip ?_
      show AW _ _ _ _ _ _
      refine .seq ?_
      refine .region ?_
      refine asd ?_
      refine rn ?_
      refine .ret ?_
      exact ⟨by unfold cmpN; rw [if_neg (by omega), if_neg (by omega)]; rfl, rfl⟩

theorem sub_step {O P x y c A A' B B' q r : Nat} (hq : x + 4294967296 * q = y + c + r) (hA : A = x + 4294967296 * A') (hB : B = y + 4294967296 * B') {T U : Nat} (h : T + (B + c) * P = U + O + A * P) : T + (B' + q) * (P * 4294967296) = U + (O + P * r) + A' * (P * 4294967296) := by
  grind
/-- What is taken away; nothing, if it would be below nought. -/
def minN (m n : Nat) : Nat := if n ≤ m then m - n else 0
theorem refMinus_fn {a b : List Nat} (ha : Ok a) (hb : Ok b) (hla : a.length ≤ 500000) (hlb : b.length ≤ 500000) : Fn Try.prog 141 [.sl (L a), .sl (L b)] (.tup [.d (.sl (L (digs (minN (val a) (val b))))), .d (.b (decide (val b ≤ val a)))]) := by
  refine Fn.of (rs := [.tmp 4, .tmp 5]) (nt := 43) Try.func141 rfl rfl rfl (by simp) rfl ?_
  refine .seq ?_
  refine .region ?_
  refine asn ?_
  refine asd ?_
  refine rn ?_
  refine .seq ?_
  refine .seq ?_
  refine .region ?_
  refine mvd ?_
  refine mvd ?_
  refine cl (xs := [.sl (L a), .sl (L b)]) ?_ (refCompare_fn ha hb (by omega) (by omega)) Try.call81
  refine bi ?_
  refine rn ?_
  by_cases hlt : val a < val b
  · rw [decide_eq_true (show cmpN (val a) (val b) < 0 by unfold cmpN; rw [if_pos hlt]; decide)]
    refine cndt ?_
    refine .seq ?_
    refine .region ?_
    refine asn ?_
    refine asd ?_
    refine rn ?_
    refine .gh (Gh.nlD (t := 4) rfl) ?_
    refine .ret ?_
    exact ⟨by decide, by rw [decide_eq_false (show ¬ val b ≤ val a by omega), minN, if_neg (by omega), digs_zero]; rfl, rfl, rfl⟩
  · have hle : val b ≤ val a := by omega
    rw [decide_eq_false (show ¬ cmpN (val a) (val b) < 0 by unfold cmpN; rw [if_neg hlt]; split <;> decide)]
    refine cndf ?_
    refine .skip ?_
    show AW _ _ _ _ _ _
    refine .seq ?_
    refine .region ?_
    refine asn ?_
    refine rn ?_
    refine .seq ?_
    refine .region ?_
    refine asd ?_
    refine rn ?_
    refine .mid (fun e H' => ∃ out, e = [(6, .own 125 (L out))] ∧ H' = [] ∧ Ok out ∧ out.length = a.length ∧ val out = val a - val b) ?_ ?_
    · refine .seq ?_
      refine .region ?_
      refine asd ?_
      refine rn ?_
      refine .block ?_
      refine .gh (Gh.nlOwn (t := 6) 125 z32p rfl) ?_
      refine .loop (.gh (Gh.keep [0, 1, 6, 7, 8] rfl) ?_)
      refine AL.ind (σ := List Nat × Nat) (m := fun s => a.length - s.1.length) (e := fun s => [(0, .d (.sl (L a))), (1, .d (.sl (L b))), (6, .own 125 (L s.1)), (7, .d (.i .u64 (s.2 : Int))), (8, .d (.i .i64 (s.1.length : Int)))]) (h := fun _ => [])
        (I := fun s => Ok s.1 ∧ s.2 ≤ 1 ∧ s.1.length ≤ a.length ∧ val a + (val (b.drop s.1.length) + s.2) * 4294967296 ^ s.1.length = val b + val s.1 + val (a.drop s.1.length) * 4294967296 ^ s.1.length) ?_ ([], 0) ⟨.nil, by simp, by simp, by simp [val]; omega⟩
      rintro ⟨out, c⟩ ⟨h1, h2, h3, h4⟩ ih
      dsimp only at h1 h2 h3 h4 ih ⊢
      refine .seq ?_
      refine .seq ?_
      refine .region ?_
      refine mvd ?_
      refine mvd ?_
      refine ln ?_ (L_sz _) l32
      refine bi ?_
      refine rn ?_
      by_cases hA : out.length < a.length
      · rw [decide_eq_true (show (out.length : Int) < ((L a).length : Nat) by rw [L_length]; omega)]
        refine cndt ?_
        refine .skip ?_
        show AW _ _ _ _ _ _
        have hxl := getD_lt ha out.length
        have hyl := getD_lt hb out.length
        have hdx := drop_val (b := a) out.length
        have hdy := drop_val (b := b) out.length
        have f1 := limb_fn (a := a) ha (i := out.length) (by omega)
        have f2 := limb_fn (a := b) hb (i := out.length) (by omega)
        generalize a.getD out.length 0 = x at *
        generalize b.getD out.length 0 = y at *
        refine .seq ?_
        refine .block ?_
        refine .seq ?_
        refine .region ?_
        refine mvd ?_
        refine mvd ?_
        refine cl (xs := [.sl (L a), .i .i64 (out.length : Int)]) ?_ f1 Try.call156
        refine mvd ?_
        refine mvd ?_
        refine cl (xs := [.sl (L b), .i .i64 (out.length : Int)]) ?_ f2 Try.call156
        refine mvd ?_
        refine bie (.i .u64 ((y + c : Nat) : Int)) ?_ ?_
        · exact ⟨trivial, by rw [← Int.natCast_add, toU64 (by omega)]⟩
        refine asd ?_
        refine asd ?_
        refine rn ?_
        refine .seq ?_
        refine .region ?_
        refine asd ?_
        refine rn ?_
        refine .mid (fun e H' => H' = [] ∧ ∃ q r, x + 4294967296 * q = y + c + r ∧ r < 4294967296 ∧ q ≤ 1 ∧ e = [(0, .d (.sl (L a))), (1, .d (.sl (L b))), (6, .own 125 (L out)), (7, .d (.i .u64 (q : Int))), (8, .d (.i .i64 (out.length : Int))), (9, .d (.i .u64 ((x + 4294967296 * q : Nat) : Int))), (10, .d (.i .u64 ((y + c : Nat) : Int)))]) ?_ ?_
        · refine .seq ?_
          refine .region ?_
          refine mvd ?_
          refine mvd ?_
          refine bi ?_
          refine rn ?_
          by_cases hxy : x < y + c
          · rw [decide_eq_true (show (x : Int) < ((y + c : Nat) : Int) by omega)]
            refine cndt ?_
            refine .seq ?_
            refine .region ?_
            refine mvd ?_
            refine bie (.i .u64 ((x + 4294967296 : Nat) : Int)) ?_ ?_
            · refine ⟨trivial, ?_⟩
              rw [← toU64 (show x + 4294967296 < 18446744073709551616 by omega)]; rfl
            refine asd ?_
            refine rn ?_
            refine .region ?_
            refine asd ?_
            refine RL.gh (Gh.keep [0, 1, 6, 7, 8, 9, 10] rfl) ?_
            refine .nil ?_
            exact ⟨rfl, 1, x + 4294967296 - (y + c), by omega, by omega, by omega, rfl⟩
          · rw [decide_eq_false (show ¬ (x : Int) < ((y + c : Nat) : Int) by omega)]
            refine cndf ?_
            refine .gh (Gh.keep [0, 1, 6, 7, 8, 9, 10] rfl) ?_
            refine .skip ?_
            exact ⟨rfl, 0, x - (y + c), by omega, by omega, by omega, rfl⟩
        rintro _ _ ⟨rfl, q, r, w1, w2, w3, rfl⟩
        have hstep := sub_step w1 hdx hdy h4
        refine .region ?_
        refine mvo ?_
        refine mvd ?_
        refine mvd ?_
        refine bie (.i .u64 (r : Int)) ?_ ?_
        · refine ⟨trivial, ?_⟩
          rw [show ((x + 4294967296 * q : Nat) : Int) - ((y + c : Nat) : Int) = (r : Int) by omega, toU64 (by omega)]
        refine cve (r : Int) (toU32 w2) ?_ u64 u32
        refine bsl ?_ ?_ e32
        · simp [DV.flat, DV.cells, DV.leaf]
        refine apr ?_ ?_ (L_sz1 [r]) e32
        · simp [L_length]; omega
        refine aso ?_
        refine .nil ?_
        show AW _ _ _ _ _ _
        refine .region ?_
        refine mvd ?_
        refine ad ((out.length + 1 : Nat) : Int) ?_ ?_
        · omega
        refine asd ?_
        refine rn ?_
        refine .gh (Gh.keep [0, 1, 6, 7, 8] rfl) ?_
        have := ih (out ++ [r], q) ⟨h1.snoc w2, w3, by simp; omega, ?_⟩ (by simp; omega)
        · rw [← L_snoc] at this
          dsimp only at this
          rw [List.length_append] at this
          exact this
        · dsimp only
          rw [val_snoc, List.length_append, List.length_singleton, Nat.pow_succ]
          exact hstep
      · rw [decide_eq_false (show ¬ (out.length : Int) < ((L a).length : Nat) by rw [L_length]; omega)]
        refine cndf ?_
        refine .gh (Gh.keep [6] rfl) ?_
        refine .exit ?_
        have hlen : out.length = a.length := by omega
        refine ⟨out, rfl, rfl, h1, hlen, ?_⟩
        rw [List.drop_eq_nil_of_le (show a.length ≤ out.length by omega), hlen] at h4
        simp only [val, Nat.zero_mul, Nat.add_zero] at h4
        have hvo := val_lt h1
        rw [hlen] at hvo
        have hz : val (b.drop a.length) + c = 0 := by
          apply Classical.byContradiction
          intro hne
          have : 1 * 4294967296 ^ a.length ≤ (val (b.drop a.length) + c) * 4294967296 ^ a.length := Nat.mul_le_mul_right _ (by omega)
          omega
        rw [hz] at h4
        omega
    rintro _ _ ⟨out, rfl, rfl, h1, h2, h3⟩
    refine .seq ?_
    refine .region ?_
    refine fz (p := .t 6) ?_
    refine mvd ?_
    refine cl (xs := [.sl (L out)]) ?_ (refTrim_fn h1 (by omega)) Try.call116
    rw [h3]
    refine aso ?_
    refine asd ?_
    refine rn ?_
    refine .gh (Gh.frz (p := .t 4) rfl (fun _ _ h => by cases h)) ?_
    refine .ret ?_
    exact ⟨by decide, by rw [decide_eq_true hle, minN, if_pos hle]; rfl, rfl, rfl⟩
end Go.FL
/-
  math/bits: Sub32, Add32.
-/
namespace Go.FL
open Go Go.Proofs

theorem w32 (X : BitVec 32) : IntKind.u32.wrap (X.toNat : Int) = X.toNat := wraps_u32 _ (by omega) (by have := X.isLt; omega)
theorem o32 (X : BitVec 32) : BitVec.ofInt IntKind.u32.bits (X.toNat : Int) = X := by
  show BitVec.ofInt 32 (X.toNat : Int) = X
  rw [BitVec.ofInt_natCast, BitVec.ofNat_toNat]; simp
theorem u32_and (X Y : BitVec 32) : bits .and .u32 (X.toNat : Int) (Y.toNat : Int) = ((X &&& Y).toNat : Int) := by
  unfold bits; simp only [o32]; exact w32 _
theorem u32_or (X Y : BitVec 32) : bits .or .u32 (X.toNat : Int) (Y.toNat : Int) = ((X ||| Y).toNat : Int) := by
  unfold bits; simp only [o32]; exact w32 _
theorem u32_xor (X Y : BitVec 32) : bits .xor .u32 (X.toNat : Int) (Y.toNat : Int) = ((X ^^^ Y).toNat : Int) := by
  unfold bits; simp only [o32]; exact w32 _
theorem u32_not (X : BitVec 32) : bits .xor .u32 (if IntKind.u32.signed then -1 else IntKind.u32.max) (X.toNat : Int) = ((~~~X).toNat : Int) := by
  have := u32_xor (BitVec.allOnes 32) X
  rw [BitVec.allOnes_xor] at this
  exact this
theorem u32_sub (X Y : BitVec 32) : IntKind.u32.wrap ((X.toNat : Int) - (Y.toNat : Int)) = ((X - Y).toNat : Int) := by
  simp only [IntKind.wrap, IntKind.bits, IntKind.signed, BitVec.toNat_sub]; simp
  have := X.isLt; have := Y.isLt; omega
theorem u32_top (X : BitVec 32) : (X.toNat : Int) / 2 ^ 31 = if X.msb then 1 else 0 := by
  rw [BitVec.msb_eq_decide]
  have := X.isLt
  by_cases h : 2 ^ (32 - 1) ≤ X.toNat
  · simp [h]; omega
  · simp [h]; omega
theorem sub_top (X Y B : BitVec 32) (hB : B.toNat ≤ 1) : ((~~~X &&& Y) ||| (~~~(X ^^^ Y) &&& (X - Y - B))).msb = decide (X.toNat < Y.toNat + B.toNat) := by
  have hx := X.isLt; have hy := Y.isLt
  simp only [BitVec.msb_or, BitVec.msb_and, BitVec.msb_not, BitVec.msb_xor]
  rw [BitVec.msb_eq_decide X, BitVec.msb_eq_decide Y, BitVec.msb_eq_decide (X - Y - B)]
  simp only [BitVec.toNat_sub]
  by_cases h1 : 2 ^ (32 - 1) ≤ X.toNat <;> by_cases h2 : 2 ^ (32 - 1) ≤ Y.toNat <;> simp [h1, h2] <;> omega
theorem Sub32_fn' (X Y B : BitVec 32) (hB : B.toNat ≤ 1) : Fn Try.prog 160 [.i .u32 X.toNat, .i .u32 Y.toNat, .i .u32 B.toNat]
    (.tup [.d (.i .u32 (X - Y - B).toNat), .d (.i .u32 (if decide (X.toNat < Y.toNat + B.toNat) = true then 1 else 0))]) := by
  refine Fn.of (rs := [.tmp 6, .tmp 7]) (nt := 25) Try.func160 rfl rfl rfl (by simp) rfl ?_
  refine .seq ?_
  refine .region ?_
  refine asd ?_
  refine asd ?_
  refine rn ?_
  refine .seq ?_
  refine .region ?_
  refine mvd ?_
  refine mvd ?_
  refine bi ?_
  rw [u32_sub]
  refine mvd ?_
  refine bi ?_
  rw [u32_sub]
  refine asd ?_
  refine rn ?_
  refine .seq ?_
  refine .region ?_
  refine mvd ?_
  refine xr ?_
  rw [u32_not]
  refine mvd ?_
  refine bi ?_
  rw [u32_and]
  refine mvd ?_
  refine mvd ?_
  refine bi ?_
  rw [u32_xor]
  refine xr ?_
  rw [u32_not]
  refine mvd ?_
  refine bi ?_
  rw [u32_and]
  refine bi ?_
  rw [u32_or]
  refine bic ?_ ?_
  · decide
  refine asd ?_
  refine rn ?_
  refine .ret ?_
  rw [← sub_top X Y B hB, ← u32_top]
  exact ⟨by decide, rfl, rfl, rfl⟩
theorem Sub32_fn {x y b : Nat} (hx : x < 4294967296) (hy : y < 4294967296) (hb : b ≤ 1) : Fn Try.prog 160 [U x, U y, U b]
    (.tup [.d (U ((x + 8589934592 - y - b) % 4294967296)), .d (U (if x < y + b then 1 else 0))]) := by
  have := Sub32_fn' (BitVec.ofNat 32 x) (BitVec.ofNat 32 y) (BitVec.ofNat 32 b) (by simp only [BitVec.toNat_ofNat]; omega)
  have e1 : x % 2 ^ 32 = x := Nat.mod_eq_of_lt hx
  have e2 : y % 2 ^ 32 = y := Nat.mod_eq_of_lt hy
  have e3 : b % 2 ^ 32 = b := Nat.mod_eq_of_lt (by omega)
  simp only [BitVec.toNat_ofNat, BitVec.toNat_sub, e1, e2, e3] at this
  rw [show (2 ^ 32 - b + (2 ^ 32 - y + x) % 2 ^ 32) % 2 ^ 32 = (x + 8589934592 - y - b) % 4294967296 by omega] at this
  by_cases h : x < y + b
  · simp only [h, decide_true, if_true] at this ⊢; exact this
  · simp only [h, decide_false, if_false, Bool.false_eq_true] at this ⊢; exact this
theorem Add32_fn {x y b : Nat} (hx : x < 4294967296) (hy : y < 4294967296) (hb : b < 4294967296) : Fn Try.prog 154 [U x, U y, U b]
    (.tup [.d (U ((x + y + b) % 4294967296)), .d (U ((x + y + b) / 4294967296))]) := by
  refine Fn.of (rs := [.tmp 6, .tmp 7]) (nt := 22) Try.func154 rfl rfl rfl (by simp) rfl ?_
  refine .seq ?_
  refine .region ?_
  refine asd ?_
  refine asd ?_
  refine rn ?_
  refine .seq ?_
  refine .region ?_
  refine mvd ?_
  refine cve (x : Int) (toU64 (by omega)) ?_ u32 u64
  refine mvd ?_
  refine cve (y : Int) (toU64 (by omega)) ?_ u32 u64
  refine bie (.i .u64 ((x + y : Nat) : Int)) ?_ ?_
  · exact ⟨trivial, by rw [← Int.natCast_add, toU64 (by omega)]⟩
  refine mvd ?_
  refine cve (b : Int) (toU64 (by omega)) ?_ u32 u64
  refine bie (.i .u64 ((x + y + b : Nat) : Int)) ?_ ?_
  · exact ⟨trivial, by rw [← Int.natCast_add, toU64 (by omega)]⟩
  refine asd ?_
  refine rn ?_
  refine .seq ?_
  refine .region ?_
  refine mvd ?_
  refine cve (((x + y + b) % 4294967296 : Nat) : Int) (wrapU32 _) ?_ u64 u32
  refine asd ?_
  refine rn ?_
  refine .seq ?_
  refine .region ?_
  refine mvd ?_
  refine bie (.i .u64 (((x + y + b) / 4294967296 : Nat) : Int)) ?_ ?_
  · simp [IntKind.bits]
  refine cve (((x + y + b) / 4294967296 : Nat) : Int) (toU32 (by omega)) ?_ u64 u32
  refine asd ?_
  refine rn ?_
  refine .ret ?_
  exact ⟨by decide, rfl, rfl, rfl⟩
end Go.FL
/-
  nat.Minus.
-/
namespace Go.FL
open Go Go.Proofs

/-- One limb less another, with what was lent. -/
theorem sub_limb {x y c : Nat} (hx : x < 4294967296) (hy : y < 4294967296) (hc : c ≤ 1) : x + 4294967296 * (if x < y + c then 1 else 0) = y + c + (x + 8589934592 - y - c) % 4294967296 := by
  split <;> omega
end Go.FL
/-
  nat.take: q times v taken off; and adding it back.
-/
namespace Go.FL
open Go Go.Proofs

theorem take_step {V' V P x r b b' c c' lo q y R : Nat} (hs : V' + x * P = V + r * P) (hl : x + 4294967296 * b' = lo + b + r) (hc : c + q * y = 4294967296 * c' + lo) {F Z : Nat} (ih : F + (q * R + c' + b') * (P * 4294967296) = V' + Z) : F + (q * (y + 4294967296 * R) + c + b) * P = V + Z := by
  grind
theorem take_last {V' V P x r b b' c : Nat} (hs : V' + x * P = V + r * P) (hl : x + 4294967296 * b' = c + b + r) : V' + (0 + c + b) * P = V + b' * (P * 4294967296) := by
  grind
/-- What 'take' leaves, and what it lends. -/
def takeGo (q : Nat) : List Nat → List Nat → Nat → Nat → Nat → List Nat × Nat
  | [], u, c, b, j => (u.set j ((u.getD j 0 + 8589934592 - c % 4294967296 - b) % 4294967296), if u.getD j 0 < c % 4294967296 + b then 1 else 0)
  | y :: r, u, c, b, j => takeGo q r (u.set j ((u.getD j 0 + 8589934592 - (c + q * y) % 4294967296 - b) % 4294967296)) ((c + q * y) / 4294967296) (if u.getD j 0 < (c + q * y) % 4294967296 + b then 1 else 0) (j + 1)
theorem getD_some {u : List Nat} {j : Nat} (h : j < u.length) : u[j]? = some (u.getD j 0) := by
  rw [List.getD_eq_getElem?_getD, List.getElem?_eq_getElem h]; rfl
theorem qy_lt {q y c : Nat} (hq : q < 4294967296) (hy : y < 4294967296) (hc : c < 4294967296) : c + q * y < 18446744073709551616 := by
  have : q * y ≤ 4294967295 * 4294967295 := Nat.mul_le_mul (by omega) (by omega)
  omega
theorem div_B {s : Nat} (h : s < 18446744073709551616) : s / 4294967296 < 4294967296 := by omega
theorem takeGo_val {q : Nat} (hq : q < 4294967296) : ∀ (v u : List Nat) (c b j : Nat), Ok v → Ok u → c < 4294967296 → b ≤ 1 → j + v.length < u.length →
    val (takeGo q v u c b j).1 + (q * val v + c + b) * 4294967296 ^ j = val u + (takeGo q v u c b j).2 * 4294967296 ^ (j + v.length + 1) ∧ Ok (takeGo q v u c b j).1 ∧ (takeGo q v u c b j).2 ≤ 1 ∧
    (takeGo q v u c b j).1.length = u.length ∧ (takeGo q v u c b j).1.take j = u.take j ∧ (takeGo q v u c b j).1.drop (j + v.length + 1) = u.drop (j + v.length + 1)
  | [], u, c, b, j, hv, hu, hc, hb, hj => by
    simp only [takeGo]
    have hx := getD_some (u := u) (j := j) (by simpa using hj)
    have hxl := getD_lt hu j
    rw [Nat.mod_eq_of_lt hc]
    have hl := sub_limb hxl hc hb
    have hset := set_val hx (y := (u.getD j 0 + 8589934592 - c - b) % 4294967296)
    have h1 := take_last hset hl
    refine ⟨?_, hu.set _ (Nat.mod_lt _ (by decide)), by split <;> omega, by simp, ?_, ?_⟩
    · simp only [val, Nat.mul_zero, List.length_nil, Nat.add_zero]
      rw [h1, Nat.pow_succ]
    · rw [List.take_set_of_le (Nat.le_refl _)]
    · rw [List.drop_set_of_lt (by simp)]
  | y :: r, u, c, b, j, hv, hu, hc, hb, hj => by
    simp only [takeGo]
    have hj' : j + r.length + 1 < u.length := by simpa [Nat.add_assoc] using hj
    have hx := getD_some (u := u) (j := j) (by omega)
    have hxl := getD_lt hu j
    have hlo : (c + q * y) % 4294967296 < 4294967296 := Nat.mod_lt _ (by decide)
    have hl := sub_limb hxl hlo hb
    have hq1 : (if u.getD j 0 < (c + q * y) % 4294967296 + b then 1 else 0) ≤ 1 := by split <;> omega
    have hset := set_val hx (y := (u.getD j 0 + 8589934592 - (c + q * y) % 4294967296 - b) % 4294967296)
    have hcy : c + q * y = 4294967296 * ((c + q * y) / 4294967296) + (c + q * y) % 4294967296 := (Nat.div_add_mod _ _).symm
    have hok := hu.set j (x := (u.getD j 0 + 8589934592 - (c + q * y) % 4294967296 - b) % 4294967296) (Nat.mod_lt _ (by decide))
    have hc' := div_B (qy_lt hq hv.head hc)
    generalize (u.getD j 0 + 8589934592 - (c + q * y) % 4294967296 - b) % 4294967296 = rr at *
    generalize (if u.getD j 0 < (c + q * y) % 4294967296 + b then 1 else 0) = b' at *
    generalize u.getD j 0 = x at *
    obtain ⟨i1, i2, i3, i4, i5, i6⟩ := takeGo_val hq r (u.set j rr) ((c + q * y) / 4294967296) b' (j + 1) hv.tail hok hc' hq1 (by rw [List.length_set]; omega)
    generalize takeGo q r (u.set j rr) ((c + q * y) / 4294967296) b' (j + 1) = res at *
    rw [Nat.pow_succ] at i1
    refine ⟨?_, i2, i3, by rw [i4, List.length_set], ?_, ?_⟩
    · rw [val, show j + (y :: r).length + 1 = j + 1 + r.length + 1 by simp; omega]
      exact take_step hset hl hcy i1
    · have := congrArg (List.take j) i5
      rw [List.take_take, List.take_take, Nat.min_eq_left (by omega), List.take_set_of_le (Nat.le_refl _)] at this
      exact this
    · rw [show j + (y :: r).length + 1 = j + 1 + r.length + 1 by simp; omega, i6, List.drop_set_of_lt (by omega)]
theorem takeGo_nil (q : Nat) (u : List Nat) (c b j : Nat) : takeGo q [] u c b j = (u.set j ((u.getD j 0 + 8589934592 - c % 4294967296 - b) % 4294967296), if u.getD j 0 < c % 4294967296 + b then 1 else 0) := rfl
theorem takeGo_cons (q y : Nat) (r u : List Nat) (c b j : Nat) : takeGo q (y :: r) u c b j = takeGo q r (u.set j ((u.getD j 0 + 8589934592 - (c + q * y) % 4294967296 - b) % 4294967296)) ((c + q * y) / 4294967296) (if u.getD j 0 < (c + q * y) % 4294967296 + b then 1 else 0) (j + 1) := rfl
theorem L_set0 (xs : List Nat) (j x : Nat) : (L xs).set (0 + j) (U x) = L (xs.set j x) := by rw [Nat.zero_add, L_set]
theorem take_fn {H : Heap} {u0 v : List Nat} {q at0 : Nat} (hu : Ok u0) (hv : Ok v) (hq : q < 4294967296) (hj : at0 + v.length < u0.length) (hl : u0.length ≤ 1048576) :
    FnG Try.prog 153 [.own 125 (L u0), .d (.sl (L v)), .d (.i .u64 (q : Int)), .d (.i .i64 (at0 : Int))] H (.d (U (takeGo q v u0 0 0 at0).2)) [.own 125 (L (takeGo q v u0 0 0 at0).1)] H := by
  refine FnG.of (rs := [.tmp 8]) 1 68 Try.func153 rfl rfl rfl (by simp) (by simp) (by simp) ?_
  refine .seq ?_
  refine .region ?_
  refine asd ?_
  refine rn ?_
  refine .seq ?_
  refine .region ?_
  refine asd ?_
  refine asd ?_
  refine rn ?_
  refine .mid (fun e H' => H' = H ∧ ∃ u c b, Ok u ∧ u.length = u0.length ∧ c < 4294967296 ∧ b ≤ 1 ∧ takeGo q v u0 0 0 at0 = takeGo q [] u c b (at0 + v.length) ∧ e = [(0, .own 125 (L u)), (1, .d (.sl (L v))), (3, .d (.i .i64 (at0 : Int))), (9, .d (.i .u64 (c : Int))), (10, .d (.i .u32 (b : Int)))]) ?_ ?_
  · refine .seq ?_
    refine .region ?_
    refine mvd ?_
    refine ln ?_ (L_sz _) l32
    refine mvd ?_
    refine rn ?_
    refine .block ?_
    refine .loop (.gh (Gh.keep [0, 1, 2, 3, 9, 10, 13, 14, 15] rfl) ?_)
    refine AL.ind (σ := Nat × List Nat × Nat × Nat) (m := fun s => v.length - s.1) (e := fun s => [(0, .own 125 (L s.2.1)), (1, .d (.sl (L v))), (2, .d (.i .u64 (q : Int))), (3, .d (.i .i64 (at0 : Int))), (9, .d (.i .u64 (s.2.2.1 : Int))), (10, .d (.i .u32 (s.2.2.2 : Int))), (13, .d (.sl (L v))), (14, .d (.i .i64 ((L v).length : Nat))), (15, .d (.i .i64 (s.1 : Int)))]) (h := fun _ => H)
      (I := fun s => s.1 ≤ v.length ∧ Ok s.2.1 ∧ s.2.1.length = u0.length ∧ s.2.2.1 < 4294967296 ∧ s.2.2.2 ≤ 1 ∧ takeGo q v u0 0 0 at0 = takeGo q (v.drop s.1) s.2.1 s.2.2.1 s.2.2.2 (at0 + s.1)) ?_ (0, u0, 0, 0) ⟨Nat.zero_le _, hu, rfl, by simp, by simp, rfl⟩
    rintro ⟨i, u, c, b⟩ ⟨h1, h2, h3, h4, h5, h6⟩ ih
    dsimp only at h1 h2 h3 h4 h5 h6 ih ⊢
    refine .seq ?_
    refine .region ?_
    refine bi ?_
    refine rn ?_
    refine .seq ?_
    by_cases hi : i < v.length
    · rw [decide_eq_true (show (i : Int) < ((L v).length : Nat) by rw [L_length]; omega)]
      have hy : v[i]? = some v[i] := List.getElem?_eq_getElem hi
      have hdr : v.drop i = v[i] :: v.drop (i + 1) := List.drop_eq_getElem_cons hi
      generalize v[i] = y at hy hdr
      rw [hdr, takeGo_cons] at h6
      have hyl := hv.at hy
      have hx := getD_some (u := u) (j := at0 + i) (by omega)
      have hxl := getD_lt h2 (at0 + i)
      have hlo : (c + q * y) % 4294967296 < 4294967296 := Nat.mod_lt _ (by decide)
      have f1 := Sub32_fn hxl hlo h5
      have hq1 : (if u.getD (at0 + i) 0 < (c + q * y) % 4294967296 + b then 1 else 0) ≤ 1 := by split <;> omega
      have hrr : (u.getD (at0 + i) 0 + 8589934592 - (c + q * y) % 4294967296 - b) % 4294967296 < 4294967296 := Nat.mod_lt _ (by decide)
      have hcs := qy_lt hq hyl h4
      have hc' := div_B hcs
      have hqy : q * y < 18446744073709551616 := by omega
      generalize (u.getD (at0 + i) 0 + 8589934592 - (c + q * y) % 4294967296 - b) % 4294967296 = rr at *
      generalize (if u.getD (at0 + i) 0 < (c + q * y) % 4294967296 + b then 1 else 0) = b' at *
      generalize u.getD (at0 + i) 0 = x at *
      refine cndt ?_
      refine .skip ?_
      show AW _ _ _ _ _ _
      refine .seq ?_
      refine .block ?_
      refine .seq ?_
      refine .region ?_
      refine mvd ?_
      refine ix i ?_ rfl (L_at hy) rfl s32
      refine ldp ?_ a32
      refine asd ?_
      refine asd ?_
      refine rn ?_
      refine .seq ?_
      refine .region ?_
      refine mvd ?_
      refine mvd ?_
      refine mvd ?_
      refine cve (y : Int) (toU64 (by omega)) ?_ u32 u64
      refine bie (.i .u64 ((q * y : Nat) : Int)) ?_ ?_
      · exact ⟨trivial, by rw [← Int.natCast_mul, toU64 hqy]⟩
      refine bie (.i .u64 ((c + q * y : Nat) : Int)) ?_ ?_
      · exact ⟨trivial, by rw [← Int.natCast_add, toU64 hcs]⟩
      refine asd ?_
      refine rn ?_
      refine .gh (Gh.keep [0, 1, 2, 3, 9, 10, 11, 13, 14, 15] rfl) ?_
      generalize c + q * y = s at *
      refine .seq ?_
      refine .region ?_
      refine mvo ?_
      refine mvd ?_
      refine mvd ?_
      refine ad ((at0 + i : Nat) : Int) ?_ ?_
      · omega
      refine mvo ?_
      refine mvd ?_
      refine mvd ?_
      refine ad ((at0 + i : Nat) : Int) ?_ ?_
      · omega
      refine ixr (at0 + i) ?_ ?_ ?_ s32 (by decide)
      · rfl
      · rw [L_length, h3]; omega
      refine lde (U x) ?_ ?_ a32
      · rw [Nat.zero_add]; exact L_at' hx
      refine mvd ?_
      refine cve ((s % 4294967296 : Nat) : Int) (wrapU32 _) ?_ u64 u32
      refine mvd ?_
      refine cl (xs := [U x, U (s % 4294967296), U b]) ?_ f1 Try.call160
      refine mvt ?_
      refine ex ?_
      refine ex ?_
      refine ixr (at0 + i) ?_ ?_ ?_ s32 (by decide)
      · rfl
      · rw [L_length, h3]; omega
      refine ste ?_ ?_ z32
      · rw [Nat.zero_add]; exact L_leaf hx
      refine asd ?_
      refine rn ?_
      refine .region ?_
      refine mvd ?_
      refine bie (.i .u64 ((s / 4294967296 : Nat) : Int)) ?_ ?_
      · simp [IntKind.bits]
      refine asd ?_
      refine .nil ?_
      show AW _ _ _ _ _ _
      refine .region ?_
      refine ad ((i + 1 : Nat) : Int) ?_ ?_
      · omega
      refine mvd ?_
      refine rn ?_
      refine .gh (Gh.keep [0, 1, 2, 3, 9, 10, 13, 14, 15] rfl) ?_
      have := ih (i + 1, u.set (at0 + i) rr, s / 4294967296, b') ⟨by dsimp only; omega, h2.set _ hrr, by dsimp only; rw [List.length_set]; exact h3, hc', hq1, h6⟩ (by dsimp only; omega)
      dsimp only at this
      rw [← L_set0] at this
      exact this
    · rw [decide_eq_false (show ¬ (i : Int) < ((L v).length : Nat) by rw [L_length]; omega)]
      refine cndf ?_
      refine .gh (Gh.keep [0, 1, 3, 9, 10] rfl) ?_
      refine .exit ?_
      have hie : i = v.length := by omega
      subst hie
      rw [List.drop_eq_nil_of_le (Nat.le_refl _)] at h6
      exact ⟨rfl, u, c, b, h2, h3, h4, h5, h6, rfl⟩
  rintro _ _ ⟨rfl, u, c, b, h2, h3, h4, h5, h6, rfl⟩
  rw [h6, takeGo_nil, Nat.mod_eq_of_lt h4]
  have hx := getD_some (u := u) (j := at0 + v.length) (by omega)
  have hxl := getD_lt h2 (at0 + v.length)
  have f1 := Sub32_fn hxl h4 h5
  generalize (u.getD (at0 + v.length) 0 + 8589934592 - c - b) % 4294967296 = rr at *
  generalize (if u.getD (at0 + v.length) 0 < c + b then 1 else 0) = b' at *
  generalize u.getD (at0 + v.length) 0 = x at *
  refine .seq ?_
  refine .region ?_
  refine mvo ?_
  refine mvd ?_
  refine mvd ?_
  refine ln ?_ (L_sz _) l32
  refine ad ((at0 + v.length : Nat) : Int) ?_ ?_
  · rw [L_length]; omega
  refine mvo ?_
  refine mvd ?_
  refine mvd ?_
  refine ln ?_ (L_sz _) l32
  refine ad ((at0 + v.length : Nat) : Int) ?_ ?_
  · rw [L_length]; omega
  refine ixr (at0 + v.length) ?_ ?_ ?_ s32 (by decide)
  · rfl
  · rw [L_length, h3]; omega
  refine lde (U x) ?_ ?_ a32
  · rw [Nat.zero_add]; exact L_at' hx
  refine mvd ?_
  refine cve (c : Int) (toU32 h4) ?_ u64 u32
  refine mvd ?_
  refine cl (xs := [U x, U c, U b]) ?_ f1 Try.call160
  refine mvt ?_
  refine ex ?_
  refine ex ?_
  refine ixr (at0 + v.length) ?_ ?_ ?_ s32 (by decide)
  · rfl
  · rw [L_length, h3]; omega
  refine ste ?_ ?_ z32
  · rw [Nat.zero_add]; exact L_leaf hx
  refine asd ?_
  refine rn ?_
  refine .seq ?_
  refine .region ?_
  refine mvd ?_
  refine asd ?_
  refine rn ?_
  refine .ret ?_
  refine ⟨⟨[], by simp; rfl⟩, ⟨rfl, rfl⟩, ?_⟩
  intro k cc hk
  cases k with
  | zero =>
    simp at hk; subst hk
    exact ⟨by rw [← L_set0]; rfl, rfl, by simp⟩
  | succ k => simp at hk
end Go.FL
/-
  nat.shifted.
-/
namespace Go.FL
open Go Go.Proofs

/-- Limbs times 2 to n, with what comes from below. -/
def shL (n : Nat) : Nat → List Nat → List Nat
  | c, [] => [c]
  | c, x :: r => (c + x * 2 ^ n % 4294967296) :: shL n (x * 2 ^ n / 4294967296) r
theorem shL_length (n : Nat) : ∀ (a : List Nat) (c : Nat), (shL n c a).length = a.length + 1
  | [], c => rfl
  | x :: r, c => by simp [shL, shL_length n r]
theorem pow32n {n : Nat} (h : n < 32) : 2 ^ n * 2 ^ (32 - n) = 4294967296 := by
  rw [← Nat.pow_add, show n + (32 - n) = 32 by omega]
theorem shl_low {n x : Nat} (h : n < 32) : x * 2 ^ n % 4294967296 = x % 2 ^ (32 - n) * 2 ^ n := by
  rw [← pow32n h, Nat.mul_comm (2 ^ n), Nat.mul_mod_mul_right]
theorem shl_join {n x c : Nat} (h : n < 32) (hc : c < 2 ^ n) : c + x * 2 ^ n % 4294967296 < 4294967296 := by
  rw [shl_low h]
  have h1 : x % 2 ^ (32 - n) < 2 ^ (32 - n) := Nat.mod_lt _ (Nat.two_pow_pos _)
  have h2 : (x % 2 ^ (32 - n) + 1) * 2 ^ n ≤ 2 ^ (32 - n) * 2 ^ n := Nat.mul_le_mul_right _ h1
  have h3 : (2:Nat) ^ (32 - n) * 2 ^ n = 4294967296 := by rw [Nat.mul_comm]; exact pow32n h
  rw [Nat.add_mul] at h2
  omega
theorem shl_high {n x : Nat} (hx : x < 4294967296) : x * 2 ^ n / 4294967296 < 2 ^ n := by
  rw [Nat.div_lt_iff_lt_mul (by decide), Nat.mul_comm]
  exact Nat.mul_lt_mul_of_pos_left hx (Nat.two_pow_pos n)
theorem shL_val {n : Nat} (hn : n < 32) : ∀ (a : List Nat) (c : Nat), Ok a → c < 2 ^ n → val (shL n c a) = c + val a * 2 ^ n ∧ Ok (shL n c a)
  | [], c, h, hc => by
    have : (2:Nat) ^ n ≤ 2 ^ 32 := Nat.pow_le_pow_right (by decide) (by omega)
    exact ⟨by simp [shL, val], .cons (by omega) .nil⟩
  | x :: r, c, h, hc => by
    obtain ⟨a1, a2⟩ := shL_val hn r _ h.tail (shl_high (n := n) h.head)
    refine ⟨?_, .cons (shl_join hn hc) a2⟩
    show (c + x * 2 ^ n % 4294967296) + 4294967296 * val (shL n (x * 2 ^ n / 4294967296) r) = c + (x + 4294967296 * val r) * 2 ^ n
    rw [a1, Nat.add_mul, Nat.mul_add, Nat.mul_assoc]
    omega
theorem u32_join {n x c : Nat} (hn : n < 32) (hc : c < 2 ^ n) : bits .or .u32 (c : Int) ((x * 2 ^ n % 4294967296 : Nat) : Int) = ((c + x * 2 ^ n % 4294967296 : Nat) : Int) := by
  have h1 := shl_join (x := x) hn hc
  rw [bits_join_low .u32 32 (by decide) wraps_u32 n (c : Int) ((x * 2 ^ n % 4294967296 : Nat) : Int) (by omega) (by exact_mod_cast hc) (by omega) (by omega) ?_ (by omega)]
  · omega
  · rw [shl_low hn]; exact_mod_cast Nat.mul_mod_left _ _
theorem shifted_fn {a : List Nat} {n : Nat} (ha : Ok a) (hl : a.length ≤ 1048576) (hn : n < 32) : Fn Try.prog 151 [.sl (L a), .i .i64 n] (.own 125 (L (shL n 0 a))) := by
  refine Fn.of (rs := [.tmp 4]) (nt := 41) Try.func151 rfl rfl rfl (by simp) rfl ?_
  refine .seq ?_
  refine .region ?_
  refine asn ?_
  refine rn ?_
  refine .seq ?_
  refine .region ?_
  refine mvd ?_
  refine ln ?_ (L_sz _) l32
  refine ad ((a.length + 1 : Nat) : Int) ?_ ?_
  · rw [L_length]; omega
  refine mk (a.length + 1) ⟨rfl, rfl⟩ ?_ ?_ e32 rfl
  · omega
  refine aso ?_
  refine rn ?_
  refine .mid (fun e H' => e = [(5, .own 125 (L (shL n 0 a)))] ∧ H' = []) ?_ ?_
  · refine .seq ?_
    refine .region ?_
    refine mvd ?_
    refine ln ?_ (L_sz _) l32
    refine mvd ?_
    refine rn ?_
    refine .block ?_
    refine .loop (.gh (Gh.keep [1, 5, 13, 14, 15] rfl) ?_)
    refine AL.cast (env' := [(1, .d (.i .i64 n)), (5, .own 125 (L ([] ++ 0 :: List.replicate (a.length - 0) 0))), (13, .d (.sl (L a))), (14, .d (.i .i64 ((L a).length : Nat))), (15, .d (.i .i64 ((0 : Nat) : Int)))]) (by
      have e1 : L ([] ++ 0 :: List.replicate (a.length - 0) 0) = List.replicate (a.length + 1) (U 0) := by simp [L, List.replicate_succ]
      rw [e1]; rfl) ?_
    refine AL.ind (σ := List Nat × Nat × Nat) (m := fun s => a.length - s.2.2) (e := fun s => [(1, .d (.i .i64 n)), (5, .own 125 (L (s.1 ++ s.2.1 :: List.replicate (a.length - s.2.2) 0))), (13, .d (.sl (L a))), (14, .d (.i .i64 ((L a).length : Nat))), (15, .d (.i .i64 (s.2.2 : Int)))]) (h := fun _ => [])
      (I := fun s => s.2.2 ≤ a.length ∧ s.1.length = s.2.2 ∧ s.2.1 < 2 ^ n ∧ s.1 ++ shL n s.2.1 (a.drop s.2.2) = shL n 0 a) ?_ ([], 0, 0) ⟨by simp, rfl, Nat.two_pow_pos n, rfl⟩
    rintro ⟨ps, c, i⟩ ⟨h1, h2, h3, h4⟩ ih
    dsimp only at h1 h2 h3 h4 ih ⊢
    refine .seq ?_
    refine .region ?_
    refine bi ?_
    refine rn ?_
    refine .seq ?_
    by_cases hi : i < a.length
    · rw [decide_eq_true (show (i:Int) < ((L a).length : Nat) by rw [L_length]; omega)]
      have hx : a[i]? = some a[i] := List.getElem?_eq_getElem hi
      have hdr : a.drop i = a[i] :: a.drop (i + 1) := List.drop_eq_getElem_cons hi
      generalize a[i] = x at hx hdr
      have hxl := ha.at hx
      rw [hdr] at h4
      obtain ⟨m, hm⟩ : ∃ m, a.length - i = m + 1 := ⟨a.length - i - 1, by omega⟩
      rw [hm, List.replicate_succ]
      have hz0 : (ps ++ c :: 0 :: List.replicate m 0)[i]? = some c := by
        rw [List.getElem?_append_right (by omega), h2, Nat.sub_self]; rfl
      have hw : x * 2 ^ n < 18446744073709551616 := by
        have : (2:Nat) ^ n ≤ 2 ^ 31 := Nat.pow_le_pow_right (by decide) (by omega)
        have := Nat.mul_le_mul (show x ≤ 4294967295 by omega) this
        omega
      refine cndt ?_
      refine .skip ?_
      show AW _ _ _ _ _ _
      refine .seq ?_
      refine .block ?_
      refine .seq ?_
      refine .region ?_
      refine mvd ?_
      refine ix i ?_ rfl (L_at hx) rfl s32
      refine ldp ?_ a32
      refine asd ?_
      refine asd ?_
      refine rn ?_
      refine .seq ?_
      refine .region ?_
      refine mvd ?_
      refine cve (x : Int) (toU64 (by omega)) ?_ u32 u64
      refine mvd ?_
      refine bie (.i .u64 ((x * 2 ^ n : Nat) : Int)) ?_ ?_
      · refine ⟨by omega, ?_⟩
        have e1 : min ((n:Int).toNat) IntKind.u64.bits = n := by simp [IntKind.bits]; omega
        rw [e1, ← toU64 hw]
        simp
      refine asd ?_
      refine rn ?_
      refine .seq ?_
      refine .region ?_
      refine mvo ?_
      refine mvd ?_
      refine ixr i ?_ ?_ ?_ s32 (by decide)
      · omega
      · rw [L_length]; simp; omega
      refine lde (U c) ?_ ?_ a32
      · rw [Nat.zero_add]; exact L_at' hz0
      refine mvd ?_
      refine cve ((x * 2 ^ n % 4294967296 : Nat) : Int) (wrapU32 _) ?_ u64 u32
      refine bie (U (c + x * 2 ^ n % 4294967296)) ?_ ?_
      · exact ⟨trivial, by rw [u32_join hn h3]; rfl⟩
      refine ixr i ?_ ?_ ?_ s32 (by decide)
      · omega
      · rw [L_length]; simp; omega
      refine ste ?_ ?_ z32
      · rw [Nat.zero_add]; exact L_leaf hz0
      refine rn ?_
      have hs1 : (L (ps ++ c :: 0 :: List.replicate m 0)).set (0 + i) (U (c + x * 2 ^ n % 4294967296)) = L (ps ++ (c + x * 2 ^ n % 4294967296) :: 0 :: List.replicate m 0) := by
        rw [L_set, Nat.zero_add, List.set_append_right _ _ (by omega), h2, Nat.sub_self]; rfl
      have hs2 : (L (ps ++ (c + x * 2 ^ n % 4294967296) :: 0 :: List.replicate m 0)).set (0 + (i + 1)) (U (x * 2 ^ n / 4294967296)) = L ((ps ++ [c + x * 2 ^ n % 4294967296]) ++ (x * 2 ^ n / 4294967296) :: List.replicate m 0) := by
        rw [L_set, Nat.zero_add, List.set_append_right _ _ (by omega), h2, show i + 1 - i = 1 by omega, List.append_assoc]; rfl
      have hz1 : (ps ++ (c + x * 2 ^ n % 4294967296) :: 0 :: List.replicate m 0)[i + 1]? = some 0 := by
        rw [List.getElem?_append_right (by omega), h2, show i + 1 - i = 1 by omega]; rfl
      rw [hs1]
      refine .region ?_
      refine mvo ?_
      refine mvd ?_
      refine ad ((i + 1 : Nat) : Int) ?_ ?_
      · omega
      refine mvd ?_
      refine bie (.i .u64 ((x * 2 ^ n / 4294967296 : Nat) : Int)) ?_ ?_
      · simp [IntKind.bits]
      refine cve ((x * 2 ^ n / 4294967296 : Nat) : Int) (toU32 (by omega)) ?_ u64 u32
      refine ixr (i + 1) ?_ ?_ ?_ s32 (by decide)
      · omega
      · rw [L_length]; simp; omega
      refine ste ?_ ?_ z32
      · rw [Nat.zero_add]; exact L_leaf hz1
      refine .nil ?_
      show AW _ _ _ _ _ _
      refine .region ?_
      refine ad ((i + 1 : Nat) : Int) ?_ ?_
      · omega
      refine mvd ?_
      refine .nil ?_
      refine AL.gh (Gh.keep [1, 5, 13, 14, 15] rfl) ?_
      refine AL.cast (env' := [(1, .d (.i .i64 n)), (5, .own 125 (L ((ps ++ [c + x * 2 ^ n % 4294967296]) ++ (x * 2 ^ n / 4294967296) :: List.replicate (a.length - (i + 1)) 0))), (13, .d (.sl (L a))), (14, .d (.i .i64 ((L a).length : Nat))), (15, .d (.i .i64 ((i + 1 : Nat) : Int)))]) (by rw [show a.length - (i + 1) = m by omega, ← hs2]; rfl) ?_
      refine ih (ps ++ [c + x * 2 ^ n % 4294967296], x * 2 ^ n / 4294967296, i + 1) ⟨by show i + 1 ≤ a.length; omega, by simp [h2], shl_high hxl, ?_⟩ (by show a.length - (i + 1) < a.length - i; omega)
      rw [← h4, List.append_assoc]; rfl
    · rw [decide_eq_false (show ¬ (i:Int) < ((L a).length : Nat) by rw [L_length]; omega)]
      have e1 : a.drop i = [] := List.drop_eq_nil_of_le (by omega)
      rw [e1] at h4
      replace h4 : ps ++ [c] = shL n 0 a := h4
      rw [show a.length - i = 0 by omega]
      refine cndf ?_
      refine .gh (Gh.keep [5] rfl) ?_
      refine .exit ?_
      exact ⟨by rw [← h4]; rfl, rfl⟩
  · rintro _ _ ⟨rfl, rfl⟩
    refine .seq ?_
    refine .region ?_
    refine mvoo ?_
    refine aso ?_
    refine rn ?_
    refine .ret ?_
    exact ⟨rfl, rfl⟩
end Go.FL
/-
  nat.back: the sum.
-/
namespace Go.FL
open Go Go.Proofs

/-- Limbs over 2 to n. -/
def shR (n : Nat) : List Nat → List Nat
  | [] => []
  | x :: r => ((x + r.headD 0 * 4294967296) / 2 ^ n % 4294967296) :: shR n r
theorem val_mod : ∀ (r : List Nat), ∃ k, val r = r.headD 0 + 4294967296 * k
  | [] => ⟨0, rfl⟩
  | _ :: r => ⟨val r, rfl⟩
theorem shR_val {n : Nat} (hn : n < 32) : ∀ (a : List Nat), Ok a → val (shR n a) = val a / 2 ^ n ∧ Ok (shR n a)
  | [], _ => ⟨by simp [shR, val], .nil⟩
  | x :: r, h => by
    obtain ⟨a1, a2⟩ := shR_val hn r h.tail
    refine ⟨?_, .cons (Nat.mod_lt _ (by decide)) a2⟩
    show (x + r.headD 0 * 4294967296) / 2 ^ n % 4294967296 + 4294967296 * val (shR n r) = (x + 4294967296 * val r) / 2 ^ n
    rw [a1]
    obtain ⟨k, hk⟩ := val_mod r
    have hx := h.head
    have hp := pow32n hn
    have h2 : 0 < 2 ^ n := Nat.two_pow_pos n
    have e1 : (x + 4294967296 * val r) / 2 ^ n / 4294967296 = val r / 2 ^ n := by
      rw [Nat.div_div_eq_div_mul, Nat.mul_comm (2 ^ n) 4294967296, ← Nat.div_div_eq_div_mul]
      congr 1
      omega
    have e2 : (x + 4294967296 * val r) / 2 ^ n % 4294967296 = (x + r.headD 0 * 4294967296) / 2 ^ n % 4294967296 := by
      have : x + 4294967296 * val r = x + r.headD 0 * 4294967296 + 2 ^ n * (2 ^ (32 - n) * k * 4294967296) := by
        rw [hk, ← Nat.mul_assoc, ← Nat.mul_assoc, hp]; omega
      rw [this, Nat.add_mul_div_left _ _ h2, Nat.add_mul_mod_self_right]
    have := Nat.mod_add_div ((x + 4294967296 * val r) / 2 ^ n) 4294967296
    rw [e1, e2] at this
    exact this
theorem u64_join_low {x y : Nat} (hx : x < 4294967296) (hy : y < 4294967296) : bits .or .u64 (x : Int) ((y * 4294967296 : Nat) : Int) = ((x + y * 4294967296 : Nat) : Int) := by
  rw [bits_join_low .u64 64 (by decide) wraps_u64 32 (x : Int) ((y * 4294967296 : Nat) : Int) (by omega) (by omega) (by omega) (by omega) (by omega) (by omega)]
  omega
theorem shR_length (n : Nat) : ∀ (a : List Nat), (shR n a).length = a.length
  | [] => rfl
  | x :: r => by simp [shR, shR_length n r]
theorem shR_at (n : Nat) : ∀ (a : List Nat) (i x : Nat), a[i]? = some x → (shR n a)[i]? = some ((x + (a.drop (i + 1)).headD 0 * 4294967296) / 2 ^ n % 4294967296)
  | [], i, x, h => by simp at h
  | y :: r, 0, x, h => by simp at h; subst h; rfl
  | y :: r, i + 1, x, h => by
    have := shR_at n r i x (by simpa using h)
    simpa [shR] using this
end Go.FL
/-
  nat.back: the walk.
-/
namespace Go.FL
open Go Go.Proofs

theorem back_fn {a : List Nat} {n : Nat} (ha : Ok a) (hl : a.length ≤ 1048576) (hn : n < 32) : Fn Try.prog 155 [.sl (L a), .i .i64 n] (.d (.sl (L (digs (val a / 2 ^ n))))) := by
  have hv := shR_val hn a ha
  refine Fn.of (rs := [.tmp 4]) (nt := 44) Try.func155 rfl rfl rfl (by simp) rfl ?_
  refine .seq ?_
  refine .region ?_
  refine asn ?_
  refine rn ?_
  refine .seq ?_
  refine .region ?_
  refine mvd ?_
  refine cl (xs := [.sl (L a)]) ?_ (clone_fn a (by omega)) Try.call126
  refine aso ?_
  refine rn ?_
  refine .mid (fun e H' => e = [(5, .own 125 (L (shR n a)))] ∧ H' = []) ?_ ?_
  · refine .seq ?_
    refine .region ?_
    refine mvo ?_
    refine lnr ?_ l32
    refine mvd ?_
    refine rn ?_
    refine .block ?_
    refine .loop (.gh (Gh.keep [1, 5, 11, 12] rfl) ?_)
    refine AL.ind (σ := Nat) (m := fun i => a.length - i) (e := fun i => [(1, .d (.i .i64 n)), (5, .own 125 (L ((shR n a).take i ++ a.drop i))), (11, .d (.i .i64 ((L a).length : Nat))), (12, .d (.i .i64 (i : Int)))]) (h := fun _ => [])
      (I := fun i => i ≤ a.length) ?_ 0 (Nat.zero_le _)
    intro i h1 ih
    refine .seq ?_
    refine .region ?_
    refine bi ?_
    refine rn ?_
    refine .seq ?_
    by_cases hi : i < a.length
    · rw [decide_eq_true (show (i:Int) < ((L a).length : Nat) by rw [L_length]; omega)]
      have hx : a[i]? = some a[i] := List.getElem?_eq_getElem hi
      have hdr : a.drop i = a[i] :: a.drop (i + 1) := List.drop_eq_getElem_cons hi
      generalize a[i] = x at hx hdr
      have hxl := ha.at hx
      have hsr := shR_at n a i x hx
      have hrl := shR_length n a
      have htl : ((shR n a).take i).length = i := by rw [List.length_take, hrl]; omega
      have hzl : ((shR n a).take i ++ a.drop i).length = a.length := by rw [List.length_append, htl, List.length_drop]; omega
      have hz0 : ((shR n a).take i ++ a.drop i)[i]? = some x := by
        rw [List.getElem?_append_right (by omega), htl, Nat.sub_self, hdr]; rfl
      refine cndt ?_
      refine .skip ?_
      show AW _ _ _ _ _ _
      refine .seq ?_
      refine .block ?_
      refine .seq ?_
      refine .region ?_
      refine mvd ?_
      refine asd ?_
      refine rn ?_
      refine .seq ?_
      refine .region ?_
      refine mvo ?_
      refine mvd ?_
      refine ixr i ?_ ?_ ?_ s32 (by decide)
      · omega
      · rw [L_length, hzl]; omega
      refine lde (U x) ?_ ?_ a32
      · rw [Nat.zero_add]; exact L_at' hz0
      refine cve (x : Int) (toU64 (by omega)) ?_ u32 u64
      refine asd ?_
      refine rn ?_
      refine .mid (fun e H' => H' = [] ∧ e = [(1, .d (.i .i64 n)), (5, .own 125 (L ((shR n a).take i ++ a.drop i))), (6, .d (.i .i64 (i : Int))), (7, .d (.i .u64 ((x + (a.drop (i + 1)).headD 0 * 4294967296 : Nat) : Int))), (11, .d (.i .i64 ((L a).length : Nat))), (12, .d (.i .i64 (i : Int)))]) ?_ ?_
      · refine .seq ?_
        refine .region ?_
        refine mvd ?_
        refine ad ((i + 1 : Nat) : Int) ?_ ?_
        · omega
        refine mvo ?_
        refine lnr ?_ l32
        refine bi ?_
        refine rn ?_
        by_cases hj : i + 1 < a.length
        · have hy : a[i + 1]? = some a[i + 1] := List.getElem?_eq_getElem hj
          have hdr2 : a.drop (i + 1) = a[i + 1] :: a.drop (i + 1 + 1) := List.drop_eq_getElem_cons hj
          generalize a[i + 1] = y at hy hdr2
          have hyl := ha.at hy
          have hz1 : ((shR n a).take i ++ a.drop i)[i + 1]? = some y := by
            rw [List.getElem?_append_right (by omega), htl, show i + 1 - i = 1 by omega, hdr, hdr2]; rfl
          rw [decide_eq_true (show ((i + 1 : Nat) : Int) < ((L ((shR n a).take i ++ a.drop i)).length : Nat) by rw [L_length, hzl]; omega)]
          refine cndt ?_
          refine .region ?_
          refine mvd ?_
          refine mvo ?_
          refine mvd ?_
          refine ad ((i + 1 : Nat) : Int) ?_ ?_
          · omega
          refine ixr (i + 1) ?_ ?_ ?_ s32 (by decide)
          · omega
          · rw [L_length, hzl]; omega
          refine lde (U y) ?_ ?_ a32
          · rw [Nat.zero_add]; exact L_at' hz1
          refine cve (y : Int) (toU64 (by omega)) ?_ u32 u64
          refine bie (.i .u64 ((y * 4294967296 : Nat) : Int)) ?_ ?_
          · refine ⟨by decide, ?_⟩
            rw [← toU64 (show y * 4294967296 < 18446744073709551616 by omega)]; simp [IntKind.bits]
          refine bie (.i .u64 ((x + y * 4294967296 : Nat) : Int)) ?_ ?_
          · exact ⟨trivial, by rw [u64_join_low hxl hyl]⟩
          refine asd ?_
          refine .gh (Gh.keep [1, 5, 6, 7, 11, 12] rfl) ?_
          refine rn ?_
          refine ⟨rfl, ?_⟩
          rw [hdr2]; rfl
        · have e1 : a.drop (i + 1) = [] := List.drop_eq_nil_of_le (by omega)
          rw [decide_eq_false (show ¬ ((i + 1 : Nat) : Int) < ((L ((shR n a).take i ++ a.drop i)).length : Nat) by rw [L_length, hzl]; omega)]
          refine cndf ?_
          refine .gh (Gh.keep [1, 5, 6, 7, 11, 12] rfl) ?_
          refine .skip ?_
          refine ⟨rfl, ?_⟩
          rw [e1]; simp; rfl
      · rintro _ _ ⟨rfl, rfl⟩
        have hw : x + (a.drop (i + 1)).headD 0 * 4294967296 < 18446744073709551616 := by
          have h3 : (a.drop (i + 1)).headD 0 < 4294967296 := by
            cases h4 : a.drop (i + 1) with
            | nil => decide
            | cons y r => exact (ha.drop (i + 1)) y (by rw [h4]; simp)
          omega
        generalize x + (a.drop (i + 1)).headD 0 * 4294967296 = w at hsr hw
        refine .region ?_
        refine mvo ?_
        refine mvd ?_
        refine mvd ?_
        refine mvd ?_
        refine bie (.i .u64 ((w / 2 ^ n : Nat) : Int)) ?_ ?_
        · refine ⟨by omega, ?_⟩
          have e1 : min ((n:Int).toNat) IntKind.u64.bits = n := by simp [IntKind.bits]; omega
          rw [e1]; simp
        refine cve ((w / 2 ^ n % 4294967296 : Nat) : Int) (wrapU32 _) ?_ u64 u32
        refine ixr i ?_ ?_ ?_ s32 (by decide)
        · omega
        · rw [L_length, hzl]; omega
        refine ste ?_ ?_ z32
        · rw [Nat.zero_add]; exact L_leaf hz0
        refine .nil ?_
        show AW _ _ _ _ _ _
        have hset : (L ((shR n a).take i ++ a.drop i)).set (0 + i) (U (w / 2 ^ n % 4294967296)) = L ((shR n a).take (i + 1) ++ a.drop (i + 1)) := by
          rw [L_set, Nat.zero_add, List.set_append_right _ _ (by omega), htl, Nat.sub_self, hdr, List.take_add_one, hsr, List.append_assoc]; rfl
        refine .region ?_
        refine ad ((i + 1 : Nat) : Int) ?_ ?_
        · omega
        refine mvd ?_
        refine .nil ?_
        refine AL.gh (Gh.keep [1, 5, 11, 12] rfl) ?_
        refine AL.cast (env' := [(1, .d (.i .i64 n)), (5, .own 125 (L ((shR n a).take (i + 1) ++ a.drop (i + 1)))), (11, .d (.i .i64 ((L a).length : Nat))), (12, .d (.i .i64 ((i + 1 : Nat) : Int)))]) (by rw [← hset]; rfl) ?_
        exact ih (i + 1) (by show i + 1 ≤ a.length; omega) (by show a.length - (i + 1) < a.length - i; omega)
    · rw [decide_eq_false (show ¬ (i:Int) < ((L a).length : Nat) by rw [L_length]; omega)]
      have e1 : a.drop i = [] := List.drop_eq_nil_of_le (by omega)
      have e2 : (shR n a).take i = shR n a := List.take_of_length_le (by rw [shR_length]; omega)
      rw [e1, e2, List.append_nil]
      refine cndf ?_
      refine .gh (Gh.keep [5] rfl) ?_
      refine .exit ?_
      exact ⟨rfl, rfl⟩
  · rintro _ _ ⟨rfl, rfl⟩
    refine .seq ?_
    refine .region ?_
    refine fz (p := .t 5) ?_
    refine mvd ?_
    refine cl (xs := [.sl (L (shR n a))]) ?_ (cut_val hv.2 (by rw [shR_length]; omega)) Try.call127
    refine asd ?_
    refine rn ?_
    refine .ret ?_
    exact ⟨by rw [hv.1]; rfl, rfl⟩
end Go.FL
/-
  nat.guess.
-/
namespace Go.FL
open Go Go.Proofs

/-- The guess: what three limbs over two are, or the greatest limb. -/
def guessQ (u2 u1 u0 v1 v0 : Nat) : Nat := min (((u2 * 4294967296 + u1) * 4294967296 + u0) / (v1 * 4294967296 + v0)) 4294967295
theorem top_lt {u v : Nat} (hu : u < 4294967296) (hv : v < 4294967296) : u * 4294967296 + v < 18446744073709551616 := by omega
theorem top_le {N v1 u2 u1 : Nat} (hN : N = u2 * 4294967296 + u1) (h2 : u2 ≤ v1) (h1 : u1 < 4294967296) : N < v1 * 4294967296 + 4294967296 := by omega
theorem guess_top {N v1 : Nat} (hN : N < v1 * 4294967296 + 4294967296) (g1 : v1 < 4294967296) (hv : 0 < v1) :
    ∃ r, min (N / v1) 4294967295 * v1 + r = N ∧ r < 8589934592 := by
  have hdm := Nat.div_add_mod N v1
  have hml := Nat.mod_lt N hv
  by_cases h : N / v1 ≤ 4294967295
  · rw [Nat.min_eq_left h]
    exact ⟨N % v1, by rw [Nat.mul_comm]; exact hdm, by omega⟩
  · rw [Nat.min_eq_right (by omega)]
    have h3 : v1 * 4294967296 ≤ v1 * (N / v1) := Nat.mul_le_mul_left _ (by omega)
    exact ⟨N - 4294967295 * v1, by omega, by omega⟩
theorem g_up {N M v1 D u0 v0 : Nat} (hM : M = N * 4294967296 + u0) (hD : D = v1 * 4294967296 + v0) (h0 : u0 < 4294967296) (hv : 0 < v1) : M / D ≤ N / v1 := by
  subst hM hD
  have h1 : (N * 4294967296 + u0) / (v1 * 4294967296 + v0) ≤ (N * 4294967296 + u0) / (v1 * 4294967296) := Nat.div_le_div_left (by omega) (by omega)
  have h2 : (N * 4294967296 + u0) / (v1 * 4294967296) = N / v1 := by
    rw [Nat.mul_comm v1, ← Nat.div_div_eq_div_mul]
    congr 1
    omega
  omega
theorem g1_ {q v0 r u0 : Nat} (hq : q ≤ 4294967295) (g0 : v0 < 4294967296) (h : 4294967296 ≤ r) : q * v0 ≤ r * 4294967296 + u0 := by
  have a1 : q * v0 ≤ 4294967295 * 4294967295 := Nat.mul_le_mul hq (by omega)
  omega
theorem g2_ {q v1 r B N u0 v0 : Nat} (hr : q * v1 + r = N) (h1 : q * v0 ≤ r * B + u0) : q * (v1 * B + v0) ≤ N * B + u0 := by
  have e1 : q * (v1 * B + v0) = q * v1 * B + q * v0 := by grind
  have e2 : N * B = q * v1 * B + r * B := by grind
  omega
theorem g3_ {p v1 r B N u0 v0 : Nat} (hr : (p + 1) * v1 + r = N) (h1 : r * B + u0 < (p + 1) * v0) : N * B + u0 < (p + 1) * (v1 * B + v0) := by
  have e1 : (p + 1) * (v1 * B + v0) = (p + 1) * v1 * B + (p + 1) * v0 := by grind
  have e2 : N * B = (p + 1) * v1 * B + r * B := by grind
  omega
theorem guess_end {N M D v1 v0 u0 q r : Nat} (hM : M = N * 4294967296 + u0) (hD : D = v1 * 4294967296 + v0) (hq : q ≤ 4294967295) (hg : min (M / D) 4294967295 ≤ q) (hr : q * v1 + r = N) (g0 : v0 < 4294967296) (hv : 0 < v1) (h : 4294967296 ≤ r ∨ q * v0 ≤ r * 4294967296 + u0) : q = min (M / D) 4294967295 := by
  have h1 : q * v0 ≤ r * 4294967296 + u0 := by
    rcases h with h | h
    · exact g1_ hq g0 h
    · exact h
  have h2 := g2_ (B := 4294967296) hr h1
  rw [← hM, ← hD] at h2
  have h3 : q ≤ M / D := (Nat.le_div_iff_mul_le (by omega)).2 h2
  clear h2 h1 hM hD hr
  omega
theorem guess_step {N M D v1 v0 u0 q r : Nat} (hM : M = N * 4294967296 + u0) (hD : D = v1 * 4294967296 + v0) (hr : q * v1 + r = N) (h : r * 4294967296 + u0 < q * v0) (hv : 0 < v1) : ∃ p, q = p + 1 ∧ min (M / D) 4294967295 ≤ p ∧ p * v1 + (r + v1) = N := by
  cases q with
  | zero => simp at h
  | succ p =>
    have h2 := g3_ (B := 4294967296) hr h
    rw [← hM, ← hD] at h2
    have h3 : M / D < p + 1 := (Nat.div_lt_iff_lt_mul (by omega)).2 h2
    refine ⟨p, rfl, ?_, by grind⟩
    clear h2 hM hD hr h
    omega
theorem u64_shl32 {r : Nat} (h : r < 4294967296) : IntKind.u64.wrap ((r : Int) * 2 ^ (min ((32 : Int).toNat) IntKind.u64.bits)) = ((r * 4294967296 : Nat) : Int) := by
  rw [← toU64 (n := r * 4294967296) (by omega)]; simp [IntKind.bits]
theorem q_v0 {q v0 : Nat} (hq : q ≤ 4294967295) (g0 : v0 < 4294967296) : q * v0 < 18446744073709551616 := by
  have a1 : q * v0 ≤ 4294967295 * 4294967295 := Nat.mul_le_mul hq (by omega)
  omega
theorem guess_fn {u2 u1 u0 v1 v0 : Nat} (h2 : u2 ≤ v1) (h1 : u1 < 4294967296) (h0 : u0 < 4294967296) (g1 : v1 < 4294967296) (g0 : v0 < 4294967296) (hv : 0 < v1) :
    Fn Try.prog 152 [U u2, U u1, U u0, U v1, U v0] (.d (.i .u64 (guessQ u2 u1 u0 v1 v0 : Nat))) := by
  have hu2 : u2 < 4294967296 := Nat.lt_of_le_of_lt h2 g1
  have ht := top_lt hu2 h1
  have htl := top_le (N := u2 * 4294967296 + u1) rfl h2 h1
  have hj := u64_join hu2 h1
  have hs := u64_shl32 hu2
  have hgq : guessQ u2 u1 u0 v1 v0 = min (((u2 * 4294967296 + u1) * 4294967296 + u0) / (v1 * 4294967296 + v0)) 4294967295 := rfl
  obtain ⟨N, hN⟩ : ∃ N, N = u2 * 4294967296 + u1 := ⟨_, rfl⟩
  rw [← hN] at ht htl hj hgq
  obtain ⟨M, hM⟩ : ∃ M, M = N * 4294967296 + u0 := ⟨_, rfl⟩
  obtain ⟨D, hD⟩ : ∃ D, D = v1 * 4294967296 + v0 := ⟨_, rfl⟩
  rw [← hM, ← hD] at hgq
  rw [hgq]
  obtain ⟨u2B, hu2B⟩ : ∃ z, z = u2 * 4294967296 := ⟨_, rfl⟩
  rw [← hu2B] at hj hs
  have w1 : IntKind.u64.wrap (u2 : Int) = (u2 : Int) := toU64 (Nat.lt_trans hu2 (by decide))
  have w2 : IntKind.u64.wrap (u1 : Int) = (u1 : Int) := toU64 (Nat.lt_trans h1 (by decide))
  have w3 : IntKind.u64.wrap (v1 : Int) = (v1 : Int) := toU64 (Nat.lt_trans g1 (by decide))
  have w4 : IntKind.u64.wrap (v0 : Int) = (v0 : Int) := toU64 (Nat.lt_trans g0 (by decide))
  have w5 : IntKind.u64.wrap (u0 : Int) = (u0 : Int) := toU64 (Nat.lt_trans h0 (by decide))
  have w6 : IntKind.u64.wrap ((N / v1 : Nat) : Int) = ((N / v1 : Nat) : Int) := toU64 (Nat.lt_of_le_of_lt (Nat.div_le_self _ _) ht)
  obtain ⟨r0, hr0, hr1⟩ := guess_top htl g1 hv
  have hup := g_up hM hD h0 hv
  clear hN hu2B htl
  refine Fn.of (rs := [.tmp 10]) (nt := 52) Try.func152 rfl rfl rfl (by simp) rfl ?_
  refine .seq ?_
  refine .region ?_
  refine asd ?_
  refine rn ?_
  refine .seq ?_
  refine .region ?_
  refine mvd ?_
  refine cve (u2 : Int) w1 ?_ u32 u64
  refine bie (.i .u64 (u2B : Int)) ?_ ?_
  · exact ⟨by decide, by rw [hs]⟩
  refine mvd ?_
  refine cve (u1 : Int) w2 ?_ u32 u64
  refine bie (.i .u64 (N : Int)) ?_ ?_
  · exact ⟨trivial, by rw [hj]⟩
  refine asd ?_
  refine rn ?_
  refine .gh (Gh.keep [2, 3, 4, 11] rfl) ?_
  refine .seq ?_
  refine .region ?_
  refine mvd ?_
  refine mvd ?_
  refine cve (v1 : Int) w3 ?_ u32 u64
  refine bie (.i .u64 ((N / v1 : Nat) : Int)) ?_ ?_
  · exact ⟨by omega, by rw [tdiv_nat, w6]⟩
  refine mn ?_
  rw [show (if (4294967295 : Int) < ((N / v1 : Nat) : Int) then (4294967295 : Int) else ((N / v1 : Nat) : Int)) = ((min (N / v1) 4294967295 : Nat) : Int) by
    by_cases h : 4294967295 < N / v1
    · rw [if_pos (by omega), Nat.min_eq_right (by omega)]; rfl
    · rw [if_neg (by omega), Nat.min_eq_left (by omega)]]
  refine asd ?_
  refine rn ?_
  have hq0 : min (N / v1) 4294967295 ≤ 4294967295 := Nat.min_le_right _ _
  have hgq0 : min (M / D) 4294967295 ≤ min (N / v1) 4294967295 := by omega
  generalize min (N / v1) 4294967295 = q0 at *
  have hqv : q0 * v1 ≤ N := by omega
  have hw7 : IntKind.u64.wrap ((q0 : Int) * (v1 : Int)) = ((q0 * v1 : Nat) : Int) := by rw [← Int.natCast_mul, toU64 (Nat.lt_of_le_of_lt hqv ht)]
  have hw8 : IntKind.u64.wrap ((N : Int) - ((q0 * v1 : Nat) : Int)) = (r0 : Int) := by
    rw [show (N : Int) - ((q0 * v1 : Nat) : Int) = (r0 : Int) by omega, toU64 (by omega)]
  refine .seq ?_
  refine .region ?_
  refine mvd ?_
  refine mvd ?_
  refine mvd ?_
  refine cve (v1 : Int) w3 ?_ u32 u64
  refine bie (.i .u64 ((q0 * v1 : Nat) : Int)) ?_ ?_
  · exact ⟨trivial, by rw [hw7]⟩
  refine bie (.i .u64 (r0 : Int)) ?_ ?_
  · exact ⟨trivial, by rw [hw8]⟩
  refine asd ?_
  refine rn ?_
  refine .mid (fun e H' => e = [(12, .d (.i .u64 ((min (M / D) 4294967295 : Nat) : Int)))]) ?_ ?_
  · refine .block ?_
    refine .loop (.gh (Gh.keep [2, 3, 4, 12, 13] rfl) ?_)
    refine AL.ind (σ := Nat × Nat) (m := fun s => s.1) (e := fun s => [(2, .d (U u0)), (3, .d (U v1)), (4, .d (U v0)), (12, .d (.i .u64 (s.1 : Int))), (13, .d (.i .u64 (s.2 : Int)))]) (h := fun _ => [])
      (I := fun s => min (M / D) 4294967295 ≤ s.1 ∧ s.1 ≤ 4294967295 ∧ s.1 * v1 + s.2 = N ∧ s.2 < 8589934592) ?_ (q0, r0) ⟨hgq0, hq0, hr0, hr1⟩
    clear hq0 hgq0 hqv hw7 hw8 hr0 hr1 hup w6
    clear q0 r0
    rintro ⟨q, r⟩ ⟨i1, i2, i3, i4⟩ ih
    dsimp only at i1 i2 i3 i4 ih ⊢
    have fin : (4294967296 ≤ r ∨ q * v0 ≤ r * 4294967296 + u0) → q = min (M / D) 4294967295 := fun h => guess_end hM hD i2 i1 i3 g0 hv h
    refine .seq ?_
    refine .seq ?_
    refine .region ?_
    refine mvd ?_
    refine bi ?_
    refine mvd ?_
    by_cases hr : r < 4294967296
    · rw [decide_eq_true (show (r : Int) < 4294967296 by omega)]
      have hqv0 := q_v0 i2 g0
      have hsr := u64_shl32 hr
      have hjr := u64_join hr h0
      have hst : r * 4294967296 + u0 < q * v0 → ∃ p, q = p + 1 ∧ min (M / D) 4294967295 ≤ p ∧ p * v1 + (r + v1) = N := fun h => guess_step hM hD i3 h hv
      obtain ⟨rB, hrB⟩ : ∃ z, z = r * 4294967296 := ⟨_, rfl⟩
      rw [← hrB] at hsr hjr fin hst
      clear hM hD
      refine mvd ?_
      refine mvd ?_
      refine cve (v0 : Int) w4 ?_ u32 u64
      refine bie (.i .u64 ((q * v0 : Nat) : Int)) ?_ ?_
      · exact ⟨trivial, by rw [← Int.natCast_mul, toU64 hqv0]⟩
      refine mvd ?_
      refine bie (.i .u64 (rB : Int)) ?_ ?_
      · exact ⟨by decide, by rw [hsr]⟩
      refine mvd ?_
      refine cve (u0 : Int) w5 ?_ u32 u64
      refine bie (.i .u64 ((rB + u0 : Nat) : Int)) ?_ ?_
      · exact ⟨trivial, by rw [hjr]⟩
      refine bi ?_
      refine pkd ?_
      refine rn ?_
      by_cases hc : rB + u0 < q * v0
      · rw [decide_eq_true (show ((rB + u0 : Nat) : Int) < ((q * v0 : Nat) : Int) by omega)]
        obtain ⟨p, rfl, j1, j2⟩ := hst hc
        refine cndt ?_
        refine .skip ?_
        show AW _ _ _ _ _ _
        refine .gh (Gh.keep [2, 3, 4, 12, 13] rfl) ?_
        refine .block ?_
        refine .seq ?_
        refine .region ?_
        refine mvd ?_
        refine bie (.i .u64 (p : Int)) ?_ ?_
        · refine ⟨trivial, ?_⟩
          rw [show ((p + 1 : Nat) : Int) - 1 = (p : Int) by omega, toU64 (by omega)]
        refine asd ?_
        refine rn ?_
        refine .region ?_
        refine mvd ?_
        refine mvd ?_
        refine cve (v1 : Int) w3 ?_ u32 u64
        refine bie (.i .u64 ((r + v1 : Nat) : Int)) ?_ ?_
        · exact ⟨trivial, by rw [← Int.natCast_add, toU64 (by omega)]⟩
        refine asd ?_
        refine .nil ?_
        show AL _ _ _ _ _ _
        refine .gh (Gh.keep [2, 3, 4, 12, 13] rfl) ?_
        exact ih (p, r + v1) ⟨j1, by dsimp only; omega, j2, by dsimp only; omega⟩ (by dsimp only; omega)
      · rw [decide_eq_false (show ¬ ((rB + u0 : Nat) : Int) < ((q * v0 : Nat) : Int) by omega)]
        refine cndf ?_
        refine .gh (Gh.keep [12] rfl) ?_
        refine .exit ?_
        show _ = _
        rw [← fin (.inr (by omega))]; rfl
    · rw [decide_eq_false (show ¬ (r : Int) < 4294967296 by omega)]
      refine gf ?_
      refine gf ?_
      refine gf ?_
      refine gf ?_
      refine gf ?_
      refine gf ?_
      refine gf ?_
      refine gf ?_
      refine gf ?_
      refine gf ?_
      refine pkd ?_
      refine rn ?_
      refine cndf ?_
      refine .gh (Gh.keep [12] rfl) ?_
      refine .exit ?_
      show _ = _
      rw [← fin (.inl (by omega))]; rfl
  rintro _ _ rfl
  refine .seq ?_
  refine .region ?_
  refine mvd ?_
  refine asd ?_
  refine rn ?_
  refine .ret ?_
  exact ⟨rfl, rfl⟩
end Go.FL
/-
  glyphref01: Bits, bit, twice.
-/
namespace Go.FL
open Go Go.Proofs

theorem bits_half {t : Nat} (h : t ≠ 0) : bitsN t = 1 + bitsN (t / 2) := by
  by_cases h1 : t = 1
  · subst h1; rw [bitsN_eq (k := 0) (by decide) (by decide)]; simp [bitsN]
  · exact bitsN_shift (m := 1) (by omega)
theorem refBits_fn {a : List Nat} (h : Ok a) (hl : a.length ≤ 1048576) : Fn Try.prog 158 [.sl (L a)] (.d (.i .i64 (bitsN (val a) : Nat))) := by
  have hd := digs_len_le h
  refine Fn.of (rs := [.tmp 2]) (nt := 28) Try.func158 rfl rfl rfl (by simp) rfl ?_
  refine .seq ?_
  refine .region ?_
  refine asd ?_
  refine rn ?_
  refine .seq ?_
  refine .region ?_
  refine mvd ?_
  refine cl (xs := [.sl (L a)]) ?_ (refTrim_fn h (by omega)) Try.call116
  refine aso ?_
  refine rn ?_
  refine .gh (Gh.frz (p := .t 3) rfl (fun _ _ h => by cases h)) ?_
  refine .gh (Gh.keep [3] rfl) ?_
  refine .seq ?_
  refine .seq ?_
  refine .region ?_
  refine mvd ?_
  refine ln ?_ (L_sz _) l32
  refine bi ?_
  refine rn ?_
  by_cases hz : val a = 0
  · rw [hz, digs_zero]
    refine cndt ?_
    refine .seq ?_
    refine .region ?_
    refine asd ?_
    refine rn ?_
    refine .ret ?_
    exact ⟨rfl, rfl⟩
  · obtain ⟨b, x, e1, hx, hb, hxl⟩ := digs_split hz
    have hval : bitsN (val a) = 32 * b.length + bitsN x := by rw [← bitsN_val hb hx, ← e1, val_digs]
    have hlx : bitsN x ≤ 32 := bitsN_iff.2 (by omega)
    rw [e1] at hd ⊢
    simp only [List.length_append, List.length_singleton] at hd
    rw [decide_eq_false (show ¬ ((L (b ++ [x])).length : Int) = 0 by simp [L_length]; omega)]
    refine cndf ?_
    refine .skip ?_
    show AW _ _ _ _ _ _
    refine .seq ?_
    refine .region ?_
    refine mvd ?_
    refine ln ?_ (L_sz _) l32
    refine su (b.length : Int) ?_ ?_
    · simp [L_length]; omega
    refine ml ((32 * b.length : Nat) : Int) ?_ ?_
    · omega
    refine asd ?_
    refine rn ?_
    refine .seq ?_
    refine .seq ?_
    refine .region ?_
    refine mvd ?_
    refine mvd ?_
    refine ln ?_ (L_sz _) l32
    refine su (b.length : Int) ?_ ?_
    · simp [L_length]; omega
    refine ix b.length ?_ rfl (L_at (xs := b ++ [x]) (n := x) (by simp)) rfl s32
    refine ldp ?_ a32
    refine asd ?_
    refine rn ?_
    refine .block ?_
    refine .loop (.gh (Gh.keep [4, 5] rfl) ?_)
    refine AL.ind (σ := Nat × Nat) (m := fun s => s.2) (e := fun s => [(4, .d (.i .i64 (s.1 : Int))), (5, .d (.i .u32 (s.2 : Int)))]) (h := fun _ => [])
      (I := fun s => s.1 + bitsN s.2 = bitsN (val a)) ?_ (32 * b.length, x) hval.symm
    rintro ⟨n, t⟩ h1 ih
    dsimp only at h1 ih ⊢
    refine .seq ?_
    refine .seq ?_
    refine .region ?_
    refine mvd ?_
    refine bi ?_
    refine rn ?_
    by_cases ht : t = 0
    · subst ht
      refine cndf ?_
      refine .exit ?_
      show AW _ _ _ _ _ _
      refine .seq ?_
      refine .region ?_
      refine mvd ?_
      refine asd ?_
      refine rn ?_
      refine .ret ?_
      have : n = bitsN (val a) := by rw [← h1]; simp [bitsN]
      exact ⟨by rw [← this]; rfl, rfl⟩
    · rw [decide_eq_true (show (0 : Int) < (t : Int) by omega)]
      have hsh : bitsN t = 1 + bitsN (t / 2) := bits_half ht
      refine cndt ?_
      refine .skip ?_
      show AW _ _ _ _ _ _
      refine .seq ?_
      refine .block ?_
      refine .region ?_
      refine mvd ?_
      refine ad ((n + 1 : Nat) : Int) ?_ ?_
      · omega
      refine asd ?_
      refine .nil ?_
      show AW _ _ _ _ _ _
      refine .region ?_
      refine mvd ?_
      refine bie (.i .u32 ((t / 2 : Nat) : Int)) ?_ ?_
      · simp [IntKind.bits]
      refine asd ?_
      refine rn ?_
      refine .gh (Gh.keep [4, 5] rfl) ?_
      exact ih (n + 1, t / 2) (by dsimp only; omega) (by dsimp only; omega)

theorem twice_step {V P x c A A' q r : Nat} (hq : 2 * x + c = 4294967296 * q + r) (hA : A = x + 4294967296 * A') : (V + P * r) + (2 * A' + q) * (P * 4294967296) = V + (2 * A + c) * P := by
  grind
theorem or_low {x c : Nat} (hc : c ≤ 1) : bits .or .u32 ((x * 2 % 4294967296 : Nat) : Int) (c : Int) = ((x * 2 % 4294967296 + c : Nat) : Int) := by
  rw [bits_join .u32 32 (by decide) wraps_u32 1 _ _ (by omega) (by omega) (by omega) (by omega) (by omega) (by omega)]
  omega
theorem twice_fn {a : List Nat} {c0 : Nat} (ha : Ok a) (hl : a.length ≤ 1000000) (hc0 : c0 ≤ 1) : Fn Try.prog 143 [.sl (L a), .i .u32 (c0 : Int)] (.own 125 (L (digs (2 * val a + c0)))) := by
  refine Fn.of (rs := [.tmp 4]) (nt := 35) Try.func143 rfl rfl rfl (by simp) rfl ?_
  refine .seq ?_
  refine .region ?_
  refine asn ?_
  refine rn ?_
  refine .seq ?_
  refine .region ?_
  refine asn ?_
  refine rn ?_
  refine .seq ?_
  refine .region ?_
  refine mvd ?_
  refine asd ?_
  refine rn ?_
  refine .mid (fun e H' => ∃ out c, e = [(5, .own 125 (L out)), (6, .d (.i .u32 (c : Nat)))] ∧ H' = [] ∧ Ok out ∧ c ≤ 1 ∧ out.length = a.length ∧ val (out ++ [c]) = 2 * val a + c0) ?_ ?_
  · refine .seq ?_
    refine .region ?_
    refine asd ?_
    refine rn ?_
    refine .block ?_
    refine .gh (Gh.nlOwn (t := 5) 125 z32p rfl) ?_
    refine .loop (.gh (Gh.keep [0, 5, 6, 7] rfl) ?_)
    refine AL.ind (σ := List Nat × Nat) (m := fun s => a.length - s.1.length) (e := fun s => [(0, .d (.sl (L a))), (5, .own 125 (L s.1)), (6, .d (.i .u32 (s.2 : Int))), (7, .d (.i .i64 (s.1.length : Int)))]) (h := fun _ => [])
      (I := fun s => Ok s.1 ∧ s.2 ≤ 1 ∧ s.1.length ≤ a.length ∧ val s.1 + (2 * val (a.drop s.1.length) + s.2) * 4294967296 ^ s.1.length = 2 * val a + c0) ?_ ([], c0) ⟨.nil, hc0, by simp, by simp [val]⟩
    rintro ⟨out, c⟩ ⟨h1, h2, h3, h4⟩ ih
    dsimp only at h1 h2 h3 h4 ih ⊢
    refine .seq ?_
    refine .seq ?_
    refine .region ?_
    refine mvd ?_
    refine mvd ?_
    refine ln ?_ (L_sz _) l32
    refine bi ?_
    refine rn ?_
    by_cases hA : out.length < a.length
    · rw [decide_eq_true (show (out.length : Int) < ((L a).length : Nat) by rw [L_length]; omega)]
      have hx : a[out.length]? = some a[out.length] := List.getElem?_eq_getElem hA
      have hdx : val (a.drop out.length) = a[out.length] + 4294967296 * val (a.drop (out.length + 1)) := by rw [List.drop_eq_getElem_cons hA, val]
      generalize a[out.length] = x at hx hdx
      have hxl := ha.at hx
      have hstep := twice_step (V := val out) (P := 4294967296 ^ out.length) (x := x) (c := c) (q := x / 2147483648) (r := x * 2 % 4294967296 + c) (by omega) hdx
      refine cndt ?_
      refine .skip ?_
      show AW _ _ _ _ _ _
      refine .seq ?_
      refine .block ?_
      refine .seq ?_
      refine .region ?_
      refine mvo ?_
      refine mvd ?_
      refine mvd ?_
      refine ix out.length ?_ rfl (L_at hx) rfl s32
      refine ldp ?_ a32
      refine bie (.i .u32 ((x * 2 % 4294967296 : Nat) : Int)) ?_ ?_
      · refine ⟨by decide, ?_⟩
        rw [← wrapU32]; simp [IntKind.bits]
      refine mvd ?_
      refine bie (.i .u32 ((x * 2 % 4294967296 + c : Nat) : Int)) ?_ ?_
      · exact ⟨trivial, by rw [or_low h2]⟩
      refine bsl ?_ ?_ e32
      · simp [DV.flat, DV.cells, DV.leaf]
      refine apr ?_ ?_ (L_sz1 [x * 2 % 4294967296 + c]) e32
      · simp [L_length]; omega
      refine aso ?_
      refine rn ?_
      refine .region ?_
      refine mvd ?_
      refine mvd ?_
      refine ix out.length ?_ rfl (L_at hx) rfl s32
      refine ldp ?_ a32
      refine bie (.i .u32 ((x / 2147483648 : Nat) : Int)) ?_ ?_
      · simp [IntKind.bits]
      refine asd ?_
      refine .nil ?_
      show AW _ _ _ _ _ _
      refine .region ?_
      refine mvd ?_
      refine ad ((out.length + 1 : Nat) : Int) ?_ ?_
      · omega
      refine asd ?_
      refine rn ?_
      refine .gh (Gh.keep [0, 5, 6, 7] rfl) ?_
      have := ih (out ++ [x * 2 % 4294967296 + c], x / 2147483648) ⟨h1.snoc (by omega), by dsimp only; omega, by simp; omega, ?_⟩ (by simp; omega)
      · rw [← L_snoc] at this
        dsimp only at this
        rw [List.length_append] at this
        exact this
      · dsimp only
        rw [val_snoc, List.length_append, List.length_singleton, Nat.pow_succ, hstep, h4]
    · rw [decide_eq_false (show ¬ (out.length : Int) < ((L a).length : Nat) by rw [L_length]; omega)]
      refine cndf ?_
      refine .gh (Gh.keep [5, 6] rfl) ?_
      refine .exit ?_
      refine ⟨out, c, rfl, rfl, h1, h2, by omega, ?_⟩
      rw [List.drop_eq_nil_of_le (by omega)] at h4
      rw [val_snoc, Nat.mul_comm, ← h4]
      simp [val]
  rintro _ _ ⟨out, c, rfl, rfl, h1, h2, h3, h4⟩
  refine .seq ?_
  refine .region ?_
  refine mvo ?_
  refine mvd ?_
  refine bsl ?_ ?_ e32
  · simp [DV.flat, DV.cells, DV.leaf]
  refine apr ?_ ?_ (L_sz1 [c]) e32
  · simp [L_length]; omega
  refine fz (p := .t 33) ?_
  have f1 := refTrim_fn (a := out ++ [c]) (h1.snoc (by omega)) (by simp; omega)
  rw [h4, ← L_snoc] at f1
  refine cl (xs := [.sl ((L out).take (L out).length ++ [DV.i .u32 (c : Int)])]) ?_ f1 Try.call116
  refine aso ?_
  refine rn ?_
  refine .ret ?_
  exact ⟨rfl, rfl⟩

theorem bit_val {a : List Nat} {j k x : Nat} (h : Ok a) (hx : a[j]? = some x) (hk : k < 32) : val a / 2 ^ (32 * j + k) % 2 = x / 2 ^ k % 2 := by
  have hj : j < a.length := (List.getElem?_eq_some_iff.1 hx).1
  have ex : a = a.take j ++ x :: a.drop (j + 1) := by
    rw [← (List.getElem?_eq_some_iff.1 hx).2, ← List.drop_eq_getElem_cons hj, List.take_append_drop]
  have lx : (a.take j).length = j := by rw [List.length_take]; omega
  have vx := val_lt (h.take j)
  rw [lx] at vx
  have hv : val a = val (a.take j) + 4294967296 ^ j * (x + 4294967296 * val (a.drop (j + 1))) := by
    conv => lhs; rw [ex]
    rw [val_append, lx]; rfl
  have hp : 2 ^ (32 * j) = 4294967296 ^ j := by rw [Nat.pow_mul]
  rw [hv, Nat.pow_add, hp, ← Nat.div_div_eq_div_mul, Nat.add_mul_div_left _ _ (Nat.pow_pos (by decide)), Nat.div_eq_of_lt vx, Nat.zero_add]
  have h32 : 4294967296 = 2 ^ k * (2 * 2 ^ (31 - k)) := by rw [← Nat.mul_assoc, ← Nat.pow_succ, ← Nat.pow_add]; rw [show k.succ + (31 - k) = 32 by omega]
  rw [show x + 4294967296 * val (a.drop (j + 1)) = x + 2 ^ k * (2 * (2 ^ (31 - k) * val (a.drop (j + 1)))) by
    conv => lhs; rw [h32]
    simp only [Nat.mul_assoc]]
  rw [Nat.add_mul_div_left _ _ (Nat.pow_pos (by decide))]
  omega
theorem u32_and1 (m : Nat) (h : m < 4294967296) : bits .and .u32 (m : Int) 1 = ((m % 2 : Nat) : Int) := by
  have := bits_mask .u32 32 (by decide) wraps_u32 1 (by decide) (m : Int) (by omega) (by omega)
  rw [show (2 : Int) ^ 1 - 1 = 1 by decide] at this
  rw [this]; simp
theorem tdiv32 (n : Nat) : Int.tdiv (n : Int) 32 = ((n / 32 : Nat) : Int) := rfl
theorem tmod32 (n : Nat) : Int.tmod (n : Int) 32 = ((n % 32 : Nat) : Int) := rfl
theorem bit_fn {a : List Nat} {i : Nat} (ha : Ok a) (hl : a.length ≤ 1048576) (hi : i < 32 * a.length) : Fn Try.prog 159 [.sl (L a), .i .i64 (i : Int)] (.d (.i .u32 ((val a / 2 ^ i % 2 : Nat) : Int))) := by
  have hj : i / 32 < a.length := by omega
  have hx : a[i / 32]? = some a[i / 32] := List.getElem?_eq_getElem hj
  have hb := bit_val (k := i % 32) ha hx (by omega)
  rw [show 32 * (i / 32) + i % 32 = i by omega] at hb
  rw [hb]
  generalize a[i / 32] = x at *
  have hxl := ha.at hx
  have hxk : x / 2 ^ (i % 32) ≤ x := Nat.div_le_self _ _
  refine Fn.of (rs := [.tmp 4]) (nt := 14) Try.func159 rfl rfl rfl (by simp) rfl ?_
  refine .seq ?_
  refine .region ?_
  refine asd ?_
  refine rn ?_
  refine .seq ?_
  refine .region ?_
  refine mvd ?_
  refine mvd ?_
  refine bie (.i .i64 ((i / 32 : Nat) : Int)) ?_ ?_
  · refine ⟨by decide, ?_⟩
    rw [tdiv32, wraps_i64 _ (by omega) (by omega)]
  refine ix (i / 32) ?_ rfl (L_at hx) rfl s32
  refine ldp ?_ a32
  refine mvd ?_
  refine bie (.i .i64 ((i % 32 : Nat) : Int)) ?_ ?_
  · exact ⟨by decide, by rw [tmod32]⟩
  refine bie (.i .u32 ((x / 2 ^ (i % 32) : Nat) : Int)) ?_ ?_
  · refine ⟨by omega, ?_⟩
    have e1 : min (((i % 32 : Nat) : Int).toNat) IntKind.u32.bits = i % 32 := by simp [IntKind.bits]; omega
    rw [e1]; simp
  refine bie (.i .u32 ((x / 2 ^ (i % 32) % 2 : Nat) : Int)) ?_ ?_
  · exact ⟨trivial, by rw [u32_and1 _ (by omega)]⟩
  refine asd ?_
  refine rn ?_
  refine .ret ?_
  exact ⟨rfl, rfl⟩
end Go.FL
/-
  nat.Power.
-/
namespace Go.FL
open Go Go.Proofs

/-- A power, if it has at most so many limbs. -/
def pwOK (a n most : Nat) : Prop := (digs (a ^ n)).length ≤ most
instance (a n most : Nat) : Decidable (pwOK a n most) := inferInstanceAs (Decidable (_ ≤ _))
end Go.FL
/-
  glyphref01: DivMod.
-/
namespace Go.FL
open Go Go.Proofs

def remN (m n : Nat) : Nat := if n = 0 then 0 else m % n
theorem half_bit (V j : Nat) : V / 2 ^ j = 2 * (V / 2 ^ (j + 1)) + V / 2 ^ j % 2 := by
  rw [Nat.pow_succ, ← Nat.div_div_eq_div_mul]; omega
theorem refDivMod_fn {a b : List Nat} (ha : Ok a) (hb : Ok b) (hla : a.length ≤ 100000) (hlb : b.length ≤ 100000) : Fn Try.prog 150 [.sl (L a), .sl (L b)]
    (.tup [.d (.sl (L (digs (val a / val b)))), .d (.sl (L (digs (remN (val a) (val b))))), .d (.b (decide (val b ≠ 0)))]) := by
  refine Fn.of (rs := [.tmp 4, .tmp 5, .tmp 6]) (nt := 42) Try.func150 rfl rfl rfl (by simp) rfl ?_
  refine .seq ?_
  refine .region ?_
  refine asn ?_
  refine asn ?_
  refine asd ?_
  refine rn ?_
  refine .seq ?_
  refine .seq ?_
  refine .region ?_
  refine mvd ?_
  refine cl (xs := [.sl (L b)]) ?_ (refTrim_fn hb (by omega)) Try.call116
  refine ln ?_ (L_sz _) l32
  refine bi ?_
  refine rn ?_
  by_cases hD : val b = 0
  · rw [hD, digs_zero]
    refine cndt ?_
    refine .seq ?_
    refine .region ?_
    refine asn ?_
    refine asn ?_
    refine asd ?_
    refine rn ?_
    refine .gh (Gh.nlD (t := 4) rfl) ?_
    refine .gh (Gh.nlD (t := 5) rfl) ?_
    refine .ret ?_
    refine ⟨by decide, ?_, rfl, rfl, rfl⟩
    simp [remN, digs_zero]; exact ⟨rfl, rfl, rfl⟩
  · have hdn := digs_ne (show 0 < val b by omega)
    rw [decide_eq_false (show ¬ (((L (digs (val b))).length : Nat) : Int) = 0 by rw [L_length]; omega)]
    refine cndf ?_
    refine .skip ?_
    show AW _ _ _ _ _ _
    refine .gh (Gh.keep [0, 1] rfl) ?_
    refine .seq ?_
    refine .region ?_
    refine asn ?_
    refine asn ?_
    refine rn ?_
    have hbl := bits_len ha (Nat.le_refl _)
    have hDl : val b < 4294967296 ^ b.length := val_lt hb
    refine .mid (fun e H' => e = [(7, .d (.sl (L (digs (val a / val b))))), (8, .d (.sl (L (digs (val a % val b)))))]) ?_ ?_
    · refine .seq ?_
      refine .region ?_
      refine mvd ?_
      refine cl (xs := [.sl (L a)]) ?_ (refBits_fn ha (by omega)) Try.call158
      refine su ((bitsN (val a) : Nat) - 1 : Int) ?_ ?_
      · omega
      refine asd ?_
      refine rn ?_
      refine .block ?_
      refine .gh (Gh.nlD (t := 7) rfl) ?_
      refine .gh (Gh.nlD (t := 8) rfl) ?_
      refine .loop (.gh (Gh.keep [0, 1, 7, 8, 9] rfl) ?_)
      refine AL.cast (env' := [(0, .d (.sl (L a))), (1, .d (.sl (L b))), (7, .d (.sl (L (digs 0)))), (8, .d (.sl (L (digs 0)))), (9, .d (.i .i64 ((bitsN (val a) : Nat) - 1 : Int)))]) (by rw [digs_zero]; rfl) ?_
      refine AL.ind (σ := Nat × Nat × Nat) (m := fun s => s.1) (e := fun s => [(0, .d (.sl (L a))), (1, .d (.sl (L b))), (7, .d (.sl (L (digs s.2.1)))), (8, .d (.sl (L (digs s.2.2)))), (9, .d (.i .i64 ((s.1 : Int) - 1)))]) (h := fun _ => [])
        (I := fun s => s.1 ≤ bitsN (val a) ∧ s.2.1 * val b + s.2.2 = val a / 2 ^ s.1 ∧ s.2.2 < val b) ?_ (bitsN (val a), 0, 0) ⟨Nat.le_refl _, by
          have := bitsN_iff.1 (Nat.le_refl (bitsN (val a)))
          rw [Nat.div_eq_of_lt this]; simp, by dsimp only; omega⟩
      rintro ⟨i, q, r⟩ ⟨h1, h2, h3⟩ ih
      dsimp only at h1 h2 h3 ih ⊢
      refine .seq ?_
      refine .seq ?_
      refine .region ?_
      refine mvd ?_
      refine bi ?_
      refine rn ?_
      cases i with
      | zero =>
        rw [decide_eq_false (show ¬ (0 : Int) ≤ ((0 : Nat) : Int) - 1 by omega)]
        refine cndf ?_
        refine .gh (Gh.keep [7, 8] rfl) ?_
        refine .exit ?_
        rw [Nat.pow_zero, Nat.div_one] at h2
        have e1 : val a / val b = q := by
          rw [← h2, Nat.mul_comm, Nat.mul_add_div (by omega), Nat.div_eq_of_lt h3, Nat.add_zero]
        have e2 : val a % val b = r := by
          rw [← h2, Nat.mul_comm, Nat.mul_add_mod, Nat.mod_eq_of_lt h3]
        show _ = _
        rw [e1, e2]; rfl
      | succ j =>
        rw [decide_eq_true (show (0 : Int) ≤ ((j + 1 : Nat) : Int) - 1 by omega)]
        have hT := half_bit (val a) j
        rw [← h2] at hT
        have fb := bit_fn (a := a) (i := j) ha (by omega) (by omega)
        have hb2 : val a / 2 ^ j % 2 ≤ 1 := by omega
        have hqV : 2 * q + 1 ≤ 2 * val a + 1 := by
          have hq1 : q ≤ q * val b := Nat.le_mul_of_pos_right _ (by omega)
          have hq2 : val a / 2 ^ (j + 1) ≤ val a := Nat.div_le_self _ _
          omega
        have hrl : (digs r).length ≤ b.length := digs_len (by omega)
        have hql : (digs q).length ≤ a.length := digs_len (by have := val_lt ha; omega)
        generalize val a / 2 ^ j % 2 = bt at *
        refine cndt ?_
        refine .skip ?_
        show AW _ _ _ _ _ _
        refine .seq ?_
        refine .block ?_
        refine .seq ?_
        refine .region ?_
        refine mvd ?_
        refine mvd ?_
        refine mvd ?_
        rw [show ((j + 1 : Nat) : Int) - 1 = (j : Int) by omega]
        refine cl (xs := [.sl (L a), .i .i64 (j : Int)]) ?_ fb Try.call159
        refine cl (xs := [.sl (L (digs r)), .i .u32 (bt : Int)]) ?_ (twice_fn (digs_ok r) (by omega) hb2) Try.call143
        rw [val_digs]
        refine aso ?_
        refine rn ?_
        refine .gh (Gh.frz (p := .t 8) rfl (fun _ _ h => by cases h)) ?_
        refine .gh (Gh.keep [0, 1, 7, 8, 9] rfl) ?_
        have hr2l : (digs (2 * r + bt)).length ≤ b.length + 1 := digs_len (by rw [Nat.pow_succ]; omega)
        refine .seq ?_
        refine .region ?_
        refine asd ?_
        refine rn ?_
        refine .mid (fun e H' => H' = [] ∧ ∃ g r', g ≤ 1 ∧ (2 * q + g) * val b + r' = val a / 2 ^ j ∧ r' < val b ∧ e = [(0, .d (.sl (L a))), (1, .d (.sl (L b))), (7, .d (.sl (L (digs q)))), (8, .d (.sl (L (digs r')))), (9, .d (.i .i64 (j : Int))), (10, .d (.i .u32 ((g : Nat) : Int)))]) ?_ ?_
        · refine .seq ?_
          refine .region ?_
          refine mvd ?_
          refine mvd ?_
          refine cl (xs := [.sl (L (digs (2 * r + bt))), .sl (L b)]) ?_ (refCompare_fn (a := digs (2 * r + bt)) (digs_ok _) hb (by omega) (by omega)) Try.call81
          rw [val_digs]
          refine bi ?_
          refine rn ?_
          by_cases hge : val b ≤ 2 * r + bt
          · rw [decide_eq_true (show 0 ≤ cmpN (2 * r + bt) (val b) by unfold cmpN; rw [if_neg (by omega)]; split <;> decide)]
            have fm := refMinus_fn (a := digs (2 * r + bt)) (b := b) (digs_ok _) hb (by omega) (by omega)
            rw [val_digs, minN, if_pos hge, decide_eq_true hge] at fm
            refine cndt ?_
            refine .seq ?_
            refine .region ?_
            refine mvd ?_
            refine mvd ?_
            refine cl (xs := [.sl (L (digs (2 * r + bt))), .sl (L b)]) ?_ fm Try.call141
            refine mvt ?_
            refine ex ?_
            refine ex ?_
            refine asd ?_
            refine rn ?_
            refine .region ?_
            refine asd ?_
            refine RL.gh (Gh.keep [0, 1, 7, 8, 9, 10] rfl) ?_
            refine .nil ?_
            refine ⟨rfl, 1, 2 * r + bt - val b, by omega, ?_, by omega, rfl⟩
            rw [hT, Nat.add_mul, Nat.mul_assoc]; omega
          · rw [decide_eq_false (show ¬ 0 ≤ cmpN (2 * r + bt) (val b) by unfold cmpN; rw [if_pos (by omega)]; decide)]
            refine cndf ?_
            refine .gh (Gh.keep [0, 1, 7, 8, 9, 10] rfl) ?_
            refine .skip ?_
            refine ⟨rfl, 0, 2 * r + bt, by omega, ?_, by omega, rfl⟩
            rw [hT, Nat.add_zero, Nat.mul_assoc]; omega
        rintro _ _ ⟨rfl, g, r', w1, w2, w3, rfl⟩
        refine .region ?_
        refine mvd ?_
        refine mvd ?_
        refine cl (xs := [.sl (L (digs q)), .i .u32 ((g : Nat) : Int)]) ?_ (twice_fn (digs_ok q) (by omega) w1) Try.call143
        rw [val_digs]
        refine aso ?_
        refine RL.gh (Gh.frz (p := .t 7) rfl (fun _ _ h => by cases h)) ?_
        refine .nil ?_
        show AW _ _ _ _ _ _
        refine .region ?_
        refine mvd ?_
        refine su ((j : Int) - 1) ?_ ?_
        · omega
        refine asd ?_
        refine rn ?_
        refine .gh (Gh.keep [0, 1, 7, 8, 9] rfl) ?_
        exact ih (j, 2 * q + g, r') ⟨by dsimp only; omega, w2, w3⟩ (by dsimp only; omega)
    rintro _ _ rfl
    refine .seq ?_
    refine .region ?_
    refine mvd ?_
    refine mvd ?_
    refine asd ?_
    refine asd ?_
    refine asd ?_
    refine rn ?_
    refine .ret ?_
    exact ⟨by decide, by rw [remN, if_neg hD, decide_eq_true hD]; rfl, rfl, rfl, rfl⟩
end Go.FL
/-
  Long division: the guess, one round, the end: plain numbers.
-/
namespace Go.FL
open Go Go.Proofs

/-- The guess is right, or one too great. -/
theorem guess_ok {T V N D P lo lv g : Nat} (hT : T = lo + P * N) (hlo : lo < P) (hV : V = lv + P * D) (hlv : lv < P) (hD : 4294967296 ≤ D) (hTV : T < 4294967296 * V) (hg : g = min (N / D) 4294967295) : T / V ≤ g ∧ g ≤ T / V + 1 := by
  have hVpos : 0 < V := by
    have : P * 1 ≤ P * D := Nat.mul_le_mul_left _ (by omega)
    omega
  have hq1 : T / V ≤ 4294967295 := by
    have : T / V < 4294967296 := (Nat.div_lt_iff_lt_mul hVpos).2 hTV
    omega
  have hq2 : T / V ≤ N / D := by
    refine (Nat.le_div_iff_mul_le (by omega)).2 ?_
    have h1 : T / V * V ≤ T := Nat.div_mul_le_self _ _
    have h2 : T / V * (P * D) ≤ T / V * V := Nat.mul_le_mul_left _ (by omega)
    have h3 : P * (T / V * D) < P * (N + 1) := by
      have e1 : P * (T / V * D) = T / V * (P * D) := by grind
      have e2 : P * (N + 1) = P * N + P := by grind
      omega
    have := Nat.lt_of_mul_lt_mul_left h3
    omega
  have hgN : g ≤ N / D := by rw [hg]; exact Nat.min_le_left _ _
  have hgB : g ≤ 4294967295 := by rw [hg]; exact Nat.min_le_right _ _
  have hTg : T / V ≤ g := by rw [hg]; exact Nat.le_min.2 ⟨hq2, hq1⟩
  refine ⟨hTg, ?_⟩
  apply Classical.byContradiction
  intro hc
  obtain ⟨m, hgm⟩ := Nat.exists_eq_succ_of_ne_zero (show g ≠ 0 from fun h0 => hc (by rw [h0]; exact Nat.zero_le _))
  subst hgm
  have hm : T < m * V := (Nat.div_lt_iff_lt_mul hVpos).1 (Nat.lt_of_succ_lt_succ (Nat.lt_of_not_le hc))
  have h1 : (m + 1) * D ≤ N := (Nat.le_div_iff_mul_le (by omega)).1 hgN
  clear hg hq1 hq2 hTg hgN hc
  have h2 : P * ((m + 1) * D) ≤ P * N := Nat.mul_le_mul_left _ h1
  have h3 : m * V ≤ m * (P * (D + 1)) := Nat.mul_le_mul_left _ (by
    have e : P * (D + 1) = P * D + P := by grind
    omega)
  have h4 : P * ((m + 1) * D) < P * (m * (D + 1)) := by
    have e : P * (m * (D + 1)) = m * (P * (D + 1)) := by grind
    omega
  have h5 := Nat.lt_of_mul_lt_mul_left h4
  have e1 : (m + 1) * D = m * D + D := by grind
  have e2 : m * (D + 1) = m * D + m := by grind
  omega
/-- Without a loan, the guess was right. -/
theorem round0 {T V W g : Nat} (hV : 0 < V) (h : W + g * V = T) (hg : T / V ≤ g) : g = T / V ∧ W = T % V := by
  have h1 : g ≤ T / V := (Nat.le_div_iff_mul_le hV).2 (by omega)
  have h2 : g = T / V := by omega
  refine ⟨h2, ?_⟩
  have := Nat.div_add_mod T V
  rw [← h2, Nat.mul_comm] at this
  omega
/-- With one, it was one too great; adding gives what is left. -/
theorem round1 {T V W W' M e g : Nat} (hV : 0 < V) (h : W + g * V = T + M) (hW : W < M) (hg : g ≤ T / V + 1) (ha : W' + e * M = W + V) (hW' : W' < M) (hVM : V < M) : g - 1 = T / V ∧ W' = T % V ∧ 0 < g := by
  have hdm := Nat.div_add_mod T V
  have hml := Nat.mod_lt T hV
  have hdl := Nat.div_mul_le_self T V
  rw [Nat.mul_comm] at hdm
  generalize T / V = Q at *
  generalize T % V = R at *
  have h1 : Q < g := by
    apply Classical.byContradiction
    intro hc
    have : g * V ≤ Q * V := Nat.mul_le_mul_right _ (by omega)
    omega
  have h2 : g = Q + 1 := by omega
  subst h2
  rw [Nat.add_mul, Nat.one_mul] at h
  have h3 : W' + e * M = M + R := by omega
  have he : e = 1 := by
    match e with
    | 0 => simp at h3; omega
    | 1 => rfl
    | e + 2 =>
      have : 2 * M ≤ (e + 2) * M := Nat.mul_le_mul_right _ (by omega)
      omega
  subst he
  exact ⟨by omega, by omega, by omega⟩

theorem val_split (u : List Nat) (i : Nat) (hi : i ≤ u.length) : val u = val (u.take i) + 4294967296 ^ i * val (u.drop i) := by
  conv => lhs; rw [← List.take_append_drop i u]
  rw [val_append, List.length_take, Nat.min_eq_left hi]
theorem val_zero_drop {u : List Nat} {k : Nat} (hk : k ≤ u.length) (h : val u < 4294967296 ^ k) : val (u.drop k) = 0 := by
  rw [val_split u k hk] at h
  apply Classical.byContradiction
  intro hc
  have : 4294967296 ^ k * 1 ≤ 4294967296 ^ k * val (u.drop k) := Nat.mul_le_mul_left _ (by omega)
  omega
theorem val_lt_of {u : List Nat} {k : Nat} (hu : Ok u) (hk : k ≤ u.length) (h : val (u.drop k) = 0) : val u < 4294967296 ^ k := by
  rw [val_split u k hk, h, Nat.mul_zero, Nat.add_zero]
  have := val_lt (hu.take k)
  rwa [List.length_take, Nat.min_eq_left hk] at this
/-- Three limbs at a place, and nothing behind them. -/
theorem three_at {u : List Nat} {j : Nat} (h : j + 3 ≤ u.length) (hz : val (u.drop (j + 3)) = 0) :
    val u = val (u.take j) + 4294967296 ^ j * ((u.getD (j + 2) 0 * 4294967296 + u.getD (j + 1) 0) * 4294967296 + u.getD j 0) := by
  rw [val_split u j (by omega), drop_val j, drop_val (j + 1), drop_val (j + 2), hz]
  congr 2
  omega
theorem two_at {v : List Nat} {j : Nat} (h : v.length = j + 2) : val v = val (v.take j) + 4294967296 ^ j * (v.getD (j + 1) 0 * 4294967296 + v.getD j 0) := by
  rw [val_split v j (by omega), drop_val j, drop_val (j + 1), List.drop_eq_nil_of_le (show v.length ≤ j + 1 + 1 by omega)]
  congr 2
  simp only [val]; omega
theorem take_lt {u : List Nat} {j : Nat} (hu : Ok u) (hj : j ≤ u.length) : val (u.take j) < 4294967296 ^ j := by
  have := val_lt (hu.take j)
  rwa [List.length_take, Nat.min_eq_left hj] at this
/-- What the guess is asked of. -/
theorem top_ok {T V P N D lo lv u2 u1 u0 v1 v0 : Nat} (hT : T = lo + P * N) (hV : V = lv + P * D) (hlv : lv < P) (hTV : T < 4294967296 * V) (hN : N = (u2 * 4294967296 + u1) * 4294967296 + u0) (hD : D = v1 * 4294967296 + v0) (h0 : v0 < 4294967296) : u2 ≤ v1 := by
  have h1 : P * N < P * (4294967296 * (D + 1)) := by
    have e : P * (4294967296 * (D + 1)) = 4294967296 * (P * D + P) := by grind
    omega
  have h2 := Nat.lt_of_mul_lt_mul_left h1
  omega

/-- Added from a place on. -/
def addGo : List Nat → List Nat → Nat → Nat → List Nat × Nat
  | [], u, c, _ => (u, c)
  | y :: r, u, c, j => addGo r (u.set j ((u.getD j 0 + y + c) % 4294967296)) ((u.getD j 0 + y + c) / 4294967296) (j + 1)
theorem addGo_cons (y : Nat) (r u : List Nat) (c j : Nat) : addGo (y :: r) u c j = addGo r (u.set j ((u.getD j 0 + y + c) % 4294967296)) ((u.getD j 0 + y + c) / 4294967296) (j + 1) := rfl
theorem addGo_step {V' V P x y c c' r R F Z : Nat} (hs : V' + x * P = V + r * P) (hc : x + y + c = 4294967296 * c' + r) (ih : F + Z = V' + (R + c') * (P * 4294967296)) : F + Z = V + (y + 4294967296 * R + c) * P := by
  grind
theorem addGo_val : ∀ (v u : List Nat) (c j : Nat), Ok v → Ok u → c ≤ 1 → j + v.length ≤ u.length →
    val (addGo v u c j).1 + (addGo v u c j).2 * 4294967296 ^ (j + v.length) = val u + (val v + c) * 4294967296 ^ j ∧ Ok (addGo v u c j).1 ∧ (addGo v u c j).2 ≤ 1 ∧ (addGo v u c j).1.length = u.length ∧
    (addGo v u c j).1.take j = u.take j ∧ (addGo v u c j).1.drop (j + v.length) = u.drop (j + v.length)
  | [], u, c, j, hv, hu, hc, hj => by simp [addGo, val, hu, hc]
  | y :: r, u, c, j, hv, hu, hc, hj => by
    simp only [addGo]
    have hj' : j + r.length + 1 ≤ u.length := by simpa [Nat.add_assoc] using hj
    have hx := getD_some (u := u) (j := j) (by omega)
    have hxl := getD_lt hu j
    have hyl := hv.head
    have hset := set_val hx (y := (u.getD j 0 + y + c) % 4294967296)
    have hcy : u.getD j 0 + y + c = 4294967296 * ((u.getD j 0 + y + c) / 4294967296) + (u.getD j 0 + y + c) % 4294967296 := (Nat.div_add_mod _ _).symm
    have hok := hu.set j (x := (u.getD j 0 + y + c) % 4294967296) (Nat.mod_lt _ (by decide))
    have hc' : (u.getD j 0 + y + c) / 4294967296 ≤ 1 := by omega
    generalize (u.getD j 0 + y + c) % 4294967296 = rr at *
    generalize (u.getD j 0 + y + c) / 4294967296 = c' at *
    generalize u.getD j 0 = x at *
    obtain ⟨i1, i2, i3, i4, i5, i6⟩ := addGo_val r (u.set j rr) c' (j + 1) hv.tail hok hc' (by rw [List.length_set]; omega)
    generalize addGo r (u.set j rr) c' (j + 1) = res at *
    rw [Nat.pow_succ] at i1
    refine ⟨?_, i2, i3, by rw [i4, List.length_set], ?_, ?_⟩
    · rw [val, show j + (y :: r).length = j + 1 + r.length by simp; omega]
      exact addGo_step hset hcy i1
    · have := congrArg (List.take j) i5
      rw [List.take_take, List.take_take, Nat.min_eq_left (by omega), List.take_set_of_le (Nat.le_refl _)] at this
      exact this
    · rw [show j + (y :: r).length = j + 1 + r.length by simp; omega, i6, List.drop_set_of_lt (by omega)]

/-- One round of the division. -/
theorem knuth_round {u v : List Nat} {i k : Nat} (hu : Ok u) (hv : Ok v) (hk : v.length = k + 2) (hi : i + k + 3 ≤ u.length) (hr : val (u.drop (i + 1)) < val v) (htop : 2147483648 ≤ v.getD (k + 1) 0) :
    u.getD (i + k + 2) 0 ≤ v.getD (k + 1) 0 ∧ val (u.drop i) < 4294967296 * val v ∧
    (∀ g, g = guessQ (u.getD (i + k + 2) 0) (u.getD (i + k + 1) 0) (u.getD (i + k) 0) (v.getD (k + 1) 0) (v.getD k 0) → val (u.drop i) / val v ≤ g ∧ g ≤ val (u.drop i) / val v + 1 ∧ g ≤ 4294967295) := by
  have hT : val (u.drop i) < 4294967296 * val v := by
    rw [drop_val i]
    have h1 := getD_lt hu i
    have : 4294967296 * (val (u.drop (i + 1)) + 1) ≤ 4294967296 * val v := Nat.mul_le_mul_left _ hr
    omega
  have hvl := val_lt hv
  rw [hk] at hvl
  have hTk : val (u.drop i) < 4294967296 ^ (k + 3) := by
    rw [show k + 3 = (k + 2) + 1 by omega, Nat.pow_succ, Nat.mul_comm]
    have : 4294967296 * val v < 4294967296 * 4294967296 ^ (k + 2) := Nat.mul_lt_mul_of_pos_left hvl (by decide)
    omega
  have hz := val_zero_drop (u := u.drop i) (k := k + 3) (by rw [List.length_drop]; omega) hTk
  have h3 := three_at (u := u.drop i) (j := k) (by rw [List.length_drop]; omega) hz
  have hg : ∀ m, (u.drop i).getD m 0 = u.getD (i + m) 0 := fun m => by rw [List.getD_eq_getElem?_getD, List.getElem?_drop, List.getD_eq_getElem?_getD]
  rw [hg, hg, hg] at h3
  have h2 := two_at hk
  have hlv := take_lt (j := k) hv (by omega)
  have hlu := take_lt (j := k) (hu.drop i) (by rw [List.length_drop]; omega)
  have hv0 := getD_lt hv k
  rw [show i + (k + 2) = i + k + 2 by omega, show i + (k + 1) = i + k + 1 by omega] at h3
  have htp := top_ok h3 h2 hlv hT rfl rfl hv0
  refine ⟨htp, hT, fun g hgq => ?_⟩
  obtain ⟨j1, j2⟩ := guess_ok (g := g) h3 hlu h2 hlv (by omega) hT hgq
  refine ⟨j1, j2, ?_⟩
  rw [hgq]; exact Nat.min_le_right _ _
theorem win_alg {lo P W g V T b M : Nat} (h1 : lo + P * W + (g * V + 0 + 0) * P = lo + P * T + b * (P * M)) : P * (W + g * V) = P * (T + b * M) := by
  grind
theorem win_add {lo P W T V c K x r e Z S : Nat} (h1 : Z + c * (P * K) = lo + P * T + V * P) (hset : lo + P * W + x * (P * K) = Z + r * (P * K)) (hdm : x + c = 4294967296 * e + r) (hS : S = K * 4294967296) : P * (W + e * S) = P * (T + V) := by
  grind
/-- The window behind 'take'. -/
theorem take_window {u v : List Nat} {i g : Nat} (hu : Ok u) (hv : Ok v) (hi : i + v.length < u.length) (hg : g < 4294967296) (hz : val (u.drop (i + v.length + 1)) = 0) :
    Ok (takeGo g v u 0 0 i).1 ∧ (takeGo g v u 0 0 i).1.length = u.length ∧ (takeGo g v u 0 0 i).1.take i = u.take i ∧ (takeGo g v u 0 0 i).2 ≤ 1 ∧ val ((takeGo g v u 0 0 i).1.drop (i + v.length + 1)) = 0 ∧
    val ((takeGo g v u 0 0 i).1.drop i) + g * val v = val (u.drop i) + (takeGo g v u 0 0 i).2 * 4294967296 ^ (v.length + 1) ∧ val ((takeGo g v u 0 0 i).1.drop i) < 4294967296 ^ (v.length + 1) := by
  obtain ⟨h1, h2, h3, h4, h5, h6⟩ := takeGo_val hg v u 0 0 i hv hu (by decide) (by decide) hi
  generalize takeGo g v u 0 0 i = res at *
  have hz' : val (res.1.drop (i + v.length + 1)) = 0 := by rw [h6]; exact hz
  refine ⟨h2, h4, h5, h3, hz', ?_, ?_⟩
  · rw [val_split u i (by omega), val_split res.1 i (by omega), h5, show i + v.length + 1 = i + (v.length + 1) by omega, Nat.pow_add] at h1
    have hp : 0 < 4294967296 ^ i := Nat.pow_pos (by decide)
    exact Nat.eq_of_mul_eq_mul_left hp (win_alg h1)
  · refine val_lt_of (h2.drop i) (by rw [List.length_drop]; omega) ?_
    rw [List.drop_drop, show i + (v.length + 1) = i + v.length + 1 by omega]
    exact hz'
/-- .. and behind adding. -/
theorem add_window {u v : List Nat} {i : Nat} (hu : Ok u) (hv : Ok v) (hi : i + v.length < u.length) (hz : val (u.drop (i + v.length + 1)) = 0) {w : List Nat} {c : Nat} (hw : addGo v u 0 i = (w, c)) {w' : List Nat}
    (hw' : w' = w.set (i + v.length) ((w.getD (i + v.length) 0 + c) % 4294967296)) : Ok w' ∧ w'.length = u.length ∧ w'.take i = u.take i ∧ c ≤ 1 ∧
    (∃ e, val (w'.drop i) + e * 4294967296 ^ (v.length + 1) = val (u.drop i) + val v) ∧ val (w'.drop i) < 4294967296 ^ (v.length + 1) := by
  obtain ⟨h1, h2, h3, h4, h5, h6⟩ := addGo_val v u 0 i hv hu (by decide) (by omega)
  rw [hw] at h1 h2 h3 h4 h5 h6
  dsimp only at h1 h2 h3 h4 h5 h6
  have hx := getD_some (u := w) (j := i + v.length) (by omega)
  have hset := set_val hx (y := (w.getD (i + v.length) 0 + c) % 4294967296)
  rw [← hw'] at hset
  have hdm : w.getD (i + v.length) 0 + c = 4294967296 * ((w.getD (i + v.length) 0 + c) / 4294967296) + (w.getD (i + v.length) 0 + c) % 4294967296 := (Nat.div_add_mod _ _).symm
  have hok : Ok w' := by rw [hw']; exact h2.set _ (Nat.mod_lt _ (by decide))
  have hlen : w'.length = u.length := by rw [hw', List.length_set, h4]
  have htk : w'.take i = u.take i := by rw [hw', List.take_set_of_le (by omega), h5]
  have hz' : val (w'.drop (i + v.length + 1)) = 0 := by
    rw [hw', List.drop_set_of_lt (by omega)]
    have : w.drop (i + v.length + 1) = u.drop (i + v.length + 1) := by
      have e1 : w.drop (i + v.length + 1) = (w.drop (i + v.length)).drop 1 := by rw [List.drop_drop]
      have e2 : u.drop (i + v.length + 1) = (u.drop (i + v.length)).drop 1 := by rw [List.drop_drop]
      rw [e1, e2, h6]
    rw [this]; exact hz
  refine ⟨hok, hlen, htk, h3, ⟨(w.getD (i + v.length) 0 + c) / 4294967296, ?_⟩, ?_⟩
  · clear hw hw' hx
    generalize (w.getD (i + v.length) 0 + c) / 4294967296 = e at *
    generalize (w.getD (i + v.length) 0 + c) % 4294967296 = r at *
    generalize w.getD (i + v.length) 0 = x at *
    rw [val_split u i (by omega)] at h1
    rw [val_split w' i (by omega), htk] at hset
    rw [Nat.add_zero, Nat.pow_add] at h1
    rw [Nat.pow_add] at hset
    have hp : 0 < 4294967296 ^ i := Nat.pow_pos (by decide)
    exact Nat.eq_of_mul_eq_mul_left hp (win_add h1 hset hdm (Nat.pow_succ ..))
  · refine val_lt_of (hok.drop i) (by rw [List.length_drop]; omega) ?_
    rw [List.drop_drop, show i + (v.length + 1) = i + v.length + 1 by omega]
    exact hz'
end Go.FL
/-
  nat.DivMod.
-/
namespace Go.FL
open Go Go.Proofs

theorem norm_ok {ys b : List Nat} {x n : Nat} (e : ys = b ++ [x]) (hb : Ok b) (hx : x ≠ 0) (hxl : x < 4294967296) (hn : n = 32 - bitsN x) : n < 32 ∧ val ys * 2 ^ n < 4294967296 ^ ys.length ∧ 4294967296 ^ b.length * 2147483648 ≤ val ys * 2 ^ n := by
  have hlx : bitsN x ≤ 32 := bitsN_iff.2 (by omega)
  obtain ⟨j, hj, hj1, hj2⟩ := bitsN_pos hx
  have hv : bitsN (val ys) = 32 * b.length + bitsN x := by rw [e]; exact bitsN_val hb hx
  have hlen : ys.length = b.length + 1 := by rw [e]; simp
  have hvp : val ys ≠ 0 := fun h0 => by rw [h0, show bitsN 0 = 0 from rfl] at hv; omega
  obtain ⟨m, hm, hm1, hm2⟩ := bitsN_pos hvp
  have hB : ∀ k, 4294967296 ^ k = 2 ^ (32 * k) := fun k => by rw [Nat.pow_mul]
  refine ⟨by omega, ?_, ?_⟩
  · rw [hB, hlen, show 32 * (b.length + 1) = (m + 1) + n by omega, Nat.pow_add]
    exact Nat.mul_lt_mul_of_pos_right hm2 (Nat.pow_pos (by decide))
  · rw [hB, show (2147483648 : Nat) = 2 ^ 31 by rfl, ← Nat.pow_add, show 32 * b.length + 31 = m + n by omega, Nat.pow_add]
    exact Nat.mul_le_mul_right _ hm1
theorem top_big {v : List Nat} {k : Nat} (hv : Ok v) (hk : v.length = k + 1) (h : 4294967296 ^ k * 2147483648 ≤ val v) : 2147483648 ≤ v.getD k 0 := by
  have h1 := take_lt (j := k) hv (by omega)
  have h2 := val_split v k (by omega)
  rw [drop_val, List.drop_eq_nil_of_le (by omega)] at h2
  simp only [val, Nat.mul_zero, Nat.add_zero] at h2
  apply Classical.byContradiction
  intro hc
  have h3 : 4294967296 ^ k * (v.getD k 0 + 1) ≤ 4294967296 ^ k * 2147483648 := Nat.mul_le_mul_left _ (by omega)
  rw [Nat.mul_add, Nat.mul_one] at h3
  omega
theorem div_end {R D E Q A : Nat} (hE : 0 < E) (h : R + D * E * Q = A * E) (hR : R < D * E) : A / D = Q ∧ R / E = A % D ∧ 0 < D := by
  have hD : 0 < D := by
    rcases Nat.eq_zero_or_pos D with h0 | h0
    · subst h0; simp at hR
    · exact h0
  have e1 : D * E * Q = (D * Q) * E := by grind
  rw [e1] at h
  have hle : D * Q ≤ A := by
    have : (D * Q) * E ≤ A * E := by omega
    exact Nat.le_of_mul_le_mul_right this hE
  obtain ⟨r, rfl⟩ := Nat.exists_eq_add_of_le hle
  rw [Nat.add_mul] at h
  have hr : R = r * E := by omega
  rw [hr] at hR
  have hrD : r < D := Nat.lt_of_mul_lt_mul_right hR
  refine ⟨?_, ?_, hD⟩
  · rw [Nat.mul_add_div hD, Nat.div_eq_of_lt hrD, Nat.add_zero]
  · rw [hr, Nat.mul_div_cancel _ hE, Nat.mul_add_mod, Nat.mod_eq_of_lt hrD]
theorem start_ok {xs : List Nat} {n m V k : Nat} (hx : Ok xs) (hn : n < 32) (hm : xs.length = m + k) (hV : 4294967296 ^ k * 2147483648 ≤ V) {u : List Nat} (hu : val u = val xs * 2 ^ n) (hl : m ≤ u.length) : val (u.drop m) < V := by
  rw [val_split u m hl] at hu
  have h1 := val_lt hx
  rw [hm, Nat.pow_add] at h1
  have h2 : (2 : Nat) ^ n ≤ 2147483648 := Nat.pow_le_pow_right (n := 2) (by decide) (show n ≤ 31 by omega)
  have h3 : val xs * 2 ^ n < 4294967296 ^ m * 4294967296 ^ k * 2 ^ n := Nat.mul_lt_mul_of_pos_right h1 (Nat.pow_pos (by decide))
  have h4 : 4294967296 ^ m * 4294967296 ^ k * 2 ^ n ≤ 4294967296 ^ m * (4294967296 ^ k * 2147483648) := by
    rw [Nat.mul_assoc]
    exact Nat.mul_le_mul_left _ (Nat.mul_le_mul_left _ h2)
  have h5 : 4294967296 ^ m * (4294967296 ^ k * 2147483648) ≤ 4294967296 ^ m * V := Nat.mul_le_mul_left _ hV
  have h6 : 4294967296 ^ m * val (u.drop m) < 4294967296 ^ m * V := by omega
  exact Nat.lt_of_mul_lt_mul_left h6
theorem total_step {lo P T V Q U Z W : Nat} (h : lo + P * T + V * Z = U) (hT : T = V * Q + W) {Z' : Nat} (hZ : Z' + 0 * P = Z + Q * P) : lo + P * W + V * Z' = U := by
  grind
theorem L_rep (n : Nat) : L (List.replicate n 0) = List.replicate n (U 0) := by simp [L]

theorem DivMod_fn {a b : List Nat} (ha : Ok a) (hb : Ok b) (hla : a.length ≤ 500000) (hlb : b.length ≤ 500000) : Fn Try.prog 139 [.sl (L a), .sl (L b)]
    (.tup [.d (.sl (L (digs (val a / val b)))), .d (.sl (L (digs (remN (val a) (val b))))), .d (.b (decide (val b ≠ 0)))]) := by
  have oa := digs_ok (val a)
  have ob := digs_ok (val b)
  have va := val_digs (val a)
  have vb := val_digs (val b)
  have la := Nat.le_trans (digs_len_le ha) hla
  have lb := Nat.le_trans (digs_len_le hb) hlb
  have hspl := @digs_split (val b)
  have hlt := @digs_lt (val a) (val b)
  have hnil := @digs_nil_iff (val b)
  refine Fn.of (rs := [.tmp 4, .tmp 5, .tmp 6]) (nt := 163) Try.func139 rfl rfl rfl (by simp) rfl ?_
  refine .seq ?_
  refine .region ?_
  refine asn ?_
  refine asn ?_
  refine asd ?_
  refine rn ?_
  refine .seq ?_
  refine .region ?_
  refine mvd ?_
  refine cl (xs := [.sl (L a)]) ?_ (cut_val ha (by omega)) Try.call127
  refine mvd ?_
  refine cl (xs := [.sl (L b)]) ?_ (cut_val hb (by omega)) Try.call127
  refine asd ?_
  refine asd ?_
  refine rn ?_
  generalize digs (val a) = xs at *
  generalize digs (val b) = ys at *
  refine .gh (Gh.keep [0, 1, 4, 5, 6] rfl) ?_
  refine .mid (fun e H' => H' = [] ∧ 2 ≤ ys.length ∧ ys.length ≤ xs.length ∧ e = [(0, .d (.sl (L xs))), (1, .d (.sl (L ys)))]) ?_ ?_
  · refine .block ?_
    refine .seq ?_
    refine .region ?_
    refine mvd ?_
    refine ln ?_ (L_sz _) l32
    refine bi ?_
    refine asd ?_
    refine rn ?_
    by_cases h0 : val b = 0
    · have hy := hnil.2 h0
      subst hy
      refine cndt ?_
      refine .seq ?_
      refine .region ?_
      refine asn ?_
      refine asn ?_
      refine asd ?_
      refine rn ?_
      refine .gh (Gh.nlD (t := 4) rfl) ?_
      refine .gh (Gh.nlD (t := 5) rfl) ?_
      refine .ret ?_
      refine ⟨by decide, ?_, rfl, rfl, rfl⟩
      rw [h0]
      simp [remN, digs_zero]; exact ⟨rfl, rfl, rfl⟩
    · obtain ⟨bb, x, hyx, hx0, hbb, hxl⟩ := hspl h0
      have hyl : ys.length = bb.length + 1 := by rw [hyx]; simp
      rw [decide_eq_false (show ¬ (((L ys).length : Nat) : Int) = 0 by rw [L_length]; omega)]
      refine cndf ?_
      refine .seq ?_
      refine .region ?_
      refine mvd ?_
      refine ln ?_ (L_sz _) l32
      refine bi ?_
      refine asd ?_
      refine rn ?_
      by_cases h1 : ys.length = 1
      · have hbb0 : bb = [] := List.length_eq_zero_iff.1 (by omega)
        rw [hbb0, List.nil_append] at hyx
        have hvx : val b = x := by rw [← vb, hyx]; simp [val]
        rw [decide_eq_true (show (((L ys).length : Nat) : Int) = 1 by rw [L_length]; omega)]
        have hy0 : ys[0]? = some (val b) := by rw [hyx, hvx]; rfl
        have fsm := small_fn (a := xs) (d := val b) oa (by omega) (by omega) (by omega)
        rw [va] at fsm
        refine cndt ?_
        refine .seq ?_
        refine .region ?_
        refine mvd ?_
        refine mvd ?_
        refine ix 0 ?_ rfl (L_at hy0) rfl s32
        refine ldp ?_ a32
        refine cl (xs := [.sl (L xs), U (val b)]) ?_ fsm Try.call147
        refine mvt ?_
        refine ex ?_
        refine ex ?_
        refine asd ?_
        refine asd ?_
        refine rn ?_
        refine .seq ?_
        refine .region ?_
        refine mvd ?_
        refine mvd ?_
        refine asd ?_
        refine asd ?_
        refine asd ?_
        refine rn ?_
        refine .ret ?_
        exact ⟨by decide, by rw [remN, if_neg h0, decide_eq_true h0]; rfl, rfl, rfl, rfl⟩
      · rw [decide_eq_false (show ¬ (((L ys).length : Nat) : Int) = 1 by rw [L_length]; omega)]
        refine cndf ?_
        refine .seq ?_
        refine .region ?_
        refine mvd ?_
        refine ln ?_ (L_sz _) l32
        refine mvd ?_
        refine ln ?_ (L_sz _) l32
        refine bi ?_
        refine asd ?_
        refine rn ?_
        by_cases h2 : xs.length < ys.length
        · have hab := hlt h2
          rw [decide_eq_true (show (((L xs).length : Nat) : Int) < ((L ys).length : Nat) by rw [L_length, L_length]; omega)]
          have ft := Trim_fn (a := xs) oa (by omega)
          rw [va] at ft
          refine cndt ?_
          refine .seq ?_
          refine .region ?_
          refine mvd ?_
          refine cl (xs := [.sl (L xs)]) ?_ ft Try.call138
          refine asn ?_
          refine aso ?_
          refine asd ?_
          refine rn ?_
          refine .gh (Gh.nlD (t := 4) rfl) ?_
          refine .gh (Gh.frz (p := .t 5) rfl (fun _ _ h => by cases h)) ?_
          refine .ret ?_
          refine ⟨by decide, ?_, rfl, rfl, rfl⟩
          rw [remN, if_neg h0, decide_eq_true h0, Nat.div_eq_of_lt hab, Nat.mod_eq_of_lt hab, digs_zero]; rfl
        · rw [decide_eq_false (show ¬ (((L xs).length : Nat) : Int) < ((L ys).length : Nat) by rw [L_length, L_length]; omega)]
          refine cndf ?_
          refine .gh (Gh.keep [0, 1] rfl) ?_
          refine .skip ?_
          exact ⟨rfl, by omega, by omega, rfl⟩
  rintro _ _ ⟨rfl, hy2, hyx, rfl⟩
  have h0 : val b ≠ 0 := fun h => by have := hnil.2 h; rw [this] at hy2; simp at hy2
  obtain ⟨bb, x, hys, hx0, hbb, hxl⟩ := hspl h0
  obtain ⟨k, hk⟩ : ∃ k, ys.length = k + 2 := ⟨ys.length - 2, by omega⟩
  have hyl : bb.length = k + 1 := by rw [hys] at hk; simp at hk; omega
  obtain ⟨m0, hm0⟩ : ∃ m0, xs.length = m0 + (k + 2) := ⟨xs.length - (k + 2), by omega⟩
  obtain ⟨n, hn⟩ : ∃ n, n = 32 - bitsN x := ⟨_, rfl⟩
  obtain ⟨hn32, hV1, hV2⟩ := norm_ok hys hbb hx0 hxl hn
  have hxat : ys[k + 1]? = some x := by rw [hys, ← hyl]; simp
  have flz := LeadingZeros32_fn hxl
  rw [← hn] at flz
  have fsx := shifted_fn (a := xs) (n := n) oa (by omega) hn32
  have fsy := shifted_fn (a := ys) (n := n) ob (by omega) hn32
  obtain ⟨ux1, ux2⟩ := shL_val hn32 xs 0 oa (Nat.pow_pos (by decide))
  obtain ⟨uy1, uy2⟩ := shL_val hn32 ys 0 ob (Nat.pow_pos (by decide))
  have ux3 := shL_length n xs 0
  have uy3 := shL_length n ys 0
  rw [Nat.zero_add] at ux1 uy1
  generalize shL n 0 xs = u0 at *
  generalize shL n 0 ys = w0 at *
  have hvz := val_zero_drop (u := w0) (k := ys.length) (by omega) (by rw [uy1]; exact hV1)
  have hvv : val (w0.take ys.length) = val b * 2 ^ n := by
    have := val_split w0 ys.length (by omega)
    rw [hvz, Nat.mul_zero, Nat.add_zero, uy1, vb] at this
    exact this.symm
  have ov := uy2.take ys.length
  have lv : (w0.take ys.length).length = k + 2 := by rw [List.length_take]; omega
  generalize hvdef : w0.take ys.length = v at *
  rw [vb, hyl] at hV2
  rw [vb, hk] at hV1
  rw [va] at ux1
  have htop := top_big ov (show v.length = (k + 1) + 1 by omega) (by rw [hvv]; exact hV2)
  have hst := start_ok (V := val v) (m := m0 + 1) (k := k + 1) oa hn32 (by omega) (by rw [hvv]; exact hV2) (by rw [ux1, va]) (u := u0) (by omega)
  have hVpos : 0 < val v := by rw [hvv]; exact Nat.mul_pos (by omega) (Nat.pow_pos (by decide))
  have e2n : 0 < 2 ^ n := Nat.pow_pos (by decide)
  have hvlen : val v < 4294967296 ^ (k + 2) := by rw [hvv]; exact hV1
  have hdend : ∀ R Q, R + val v * Q = val a * 2 ^ n → R < val v → val a / val b = Q ∧ R / 2 ^ n = val a % val b := fun R Q h1 h2 => by
    rw [hvv] at h1 h2
    obtain ⟨e1, e2, _⟩ := div_end e2n h1 h2
    exact ⟨e1, e2⟩
  clear hspl hlt hnil hV2 hvz hV1 hvv uy1 vb va
  refine .seq ?_
  refine .region ?_
  refine mvd ?_
  refine mvd ?_
  refine ln ?_ (L_sz _) l32
  refine su ((k + 1 : Nat) : Int) ?_ ?_
  · rw [L_length]; omega
  refine ix (k + 1) ?_ rfl (L_at hxat) rfl s32
  refine ldp ?_ a32
  refine cl (xs := [.i .u32 (x : Int)]) ?_ flz Try.call128
  refine asd ?_
  refine rn ?_
  refine .gh (Gh.keep [0, 1, 7] rfl) ?_
  refine .seq ?_
  refine .drawn 10 mixed (by kernel_rfl) ?_
  refine dv vmvd ?_
  refine dv vmvd ?_
  refine dv (v := .own 125 (L u0)) (vcl (xs := [.sl (L xs), .i .i64 (n : Int)]) (r := .own 125 (L u0)) fsx Try.call151) ?_
  refine dv vmvd ?_
  refine dv vmvd ?_
  refine dv (v := .d (.sl (L w0))) (vcl (xs := [.sl (L ys), .i .i64 (n : Int)]) (r := .own 125 (L w0)) fsy Try.call151).deep ?_
  refine dv vmvd ?_
  refine dv (vln (L_sz _) l32) ?_
  refine dv (vsl 0 ys.length ?_ (L_sz1 _) s32) ?_
  · rw [L_length, L_length]; omega
  refine dv vaso ?_
  refine dz ?_
  refine asd ?_
  refine RL.gh (Gh.swap (s := 55) (t := 8) rfl rfl rfl) ?_
  refine rn ?_
  rw [List.drop_zero, Nat.sub_zero, L_take, hvdef]
  refine .gh (Gh.keep [0, 7, 8, 9] rfl) ?_
  refine .seq ?_
  refine .region ?_
  refine mvd ?_
  refine ln ?_ (L_sz _) l32
  refine asd ?_
  refine rn ?_
  refine .seq ?_
  refine .region ?_
  refine mvd ?_
  refine ln ?_ (L_sz _) l32
  refine mvd ?_
  refine su (m0 : Int) ?_ ?_
  · rw [L_length, L_length]; omega
  refine ad ((m0 + 1 : Nat) : Int) ?_ ?_
  · omega
  refine mk (m0 + 1) ⟨rfl, rfl⟩ ?_ ?_ e32 rfl
  · omega
  refine aso ?_
  refine rn ?_
  refine .mid (fun e H' => ∃ u q, Ok u ∧ Ok q ∧ u.length = u0.length ∧ q.length = m0 + 1 ∧ val u + val v * val q = val a * 2 ^ n ∧ val u < val v ∧ e = [(4, .own 125 (L q)), (7, .d (.i .i64 (n : Int))), (8, .own 125 (L u)), (10, .d (.i .i64 ((L v).length : Nat)))]) ?_ ?_
  · refine .seq ?_
    refine .region ?_
    refine mvd ?_
    refine ln ?_ (L_sz _) l32
    refine mvd ?_
    refine su (m0 : Int) ?_ ?_
    · rw [L_length, L_length]; omega
    refine asd ?_
    refine rn ?_
    refine .block ?_
    refine .loop (.gh (Gh.keep [4, 7, 8, 9, 10, 11] rfl) ?_)
    refine AL.cast (env' := [(4, .own 125 (L (List.replicate (m0 + 1) 0))), (7, .d (.i .i64 (n : Int))), (8, .own 125 (L u0)), (9, .d (.sl (L v))), (10, .d (.i .i64 ((L v).length : Nat))), (11, .d (.i .i64 (((m0 + 1 : Nat) : Int) - 1)))]) (by rw [L_rep, show ((m0 + 1 : Nat) : Int) - 1 = (m0 : Int) by omega]; rfl) ?_
    refine AL.ind (σ := Nat × List Nat × List Nat × Heap) (m := fun s => s.1) (e := fun s => [(4, .own 125 (L s.2.2.1)), (7, .d (.i .i64 (n : Int))), (8, .own 125 (L s.2.1)), (9, .d (.sl (L v))), (10, .d (.i .i64 ((L v).length : Nat))), (11, .d (.i .i64 ((s.1 : Int) - 1)))]) (h := fun s => s.2.2.2)
      (I := fun s => s.1 ≤ m0 + 1 ∧ Ok s.2.1 ∧ Ok s.2.2.1 ∧ s.2.1.length = u0.length ∧ s.2.2.1.length = m0 + 1 ∧ val s.2.1 + val v * val s.2.2.1 = val a * 2 ^ n ∧ val (s.2.1.drop s.1) < val v ∧ ∀ j, j < s.1 → s.2.2.1[j]? = some 0) ?_ (m0 + 1, u0, List.replicate (m0 + 1) 0, []) ⟨Nat.le_refl _, ux2, rep_ok _, rfl, by simp, by simp [rep_val, ux1], hst, fun j hj => by
      dsimp only at hj ⊢
      rw [List.getElem?_replicate, if_pos hj]⟩
    rintro ⟨m, u, q, G⟩ ⟨h1, h2, h3, h4, h5, h6, h7, h8⟩ ih
    dsimp only at h1 h2 h3 h4 h5 h6 h7 h8 ih ⊢
    refine .seq ?_
    refine .seq ?_
    refine .region ?_
    refine mvd ?_
    refine bi ?_
    refine rn ?_
    cases m with
    | zero =>
      rw [decide_eq_false (show ¬ (0 : Int) ≤ ((0 : Nat) : Int) - 1 by omega)]
      refine cndf ?_
      refine .gh (Gh.keep [4, 7, 8, 10] rfl) ?_
      refine .exit ?_
      exact ⟨u, q, h2, h3, h4, h5, h6, by simpa using h7, rfl⟩
    | succ i =>
      rw [decide_eq_true (show (0 : Int) ≤ ((i + 1 : Nat) : Int) - 1 by omega)]
      obtain ⟨t1, t2, t3⟩ := knuth_round (u := u) (v := v) (i := i) (k := k) h2 ov lv (by omega) h7 htop
      obtain ⟨g1, g2, g3⟩ := t3 _ rfl
      have fg := guess_fn t1 (getD_lt h2 (i + k + 1)) (getD_lt h2 (i + k)) (getD_lt ov (k + 1)) (getD_lt ov k) (by omega)
      have hx2 := getD_some (u := u) (j := i + k + 2) (by omega)
      have hx1 := getD_some (u := u) (j := i + k + 1) (by omega)
      have hx0' := getD_some (u := u) (j := i + k) (by omega)
      have hy1 := getD_some (u := v) (j := k + 1) (by omega)
      have hy0 := getD_some (u := v) (j := k) (by omega)
      have hzd : val (u.drop (i + v.length + 1)) = 0 := by
        have h9 := val_zero_drop (u := u.drop (i + 1)) (k := k + 2) (by rw [List.length_drop]; omega) (by omega)
        rw [List.drop_drop] at h9
        rw [lv, show i + (k + 2) + 1 = i + 1 + (k + 2) by omega]; exact h9
      generalize guessQ (u.getD (i + k + 2) 0) (u.getD (i + k + 1) 0) (u.getD (i + k) 0) (v.getD (k + 1) 0) (v.getD k 0) = g at *
      have ftk := take_fn (H := G) (u0 := u) (v := v) (q := g) (at0 := i) h2 ov (by omega) (by omega) (by omega)
      obtain ⟨w1, w2, w3, w4, w5, w6, w7⟩ := take_window (u := u) (v := v) (i := i) (g := g) h2 ov (by omega) (by omega) hzd
      generalize hres : takeGo g v u 0 0 i = res at *
      obtain ⟨u1, bf⟩ := res
      dsimp only at w1 w2 w3 w4 w5 w6 w7 ftk
      generalize u.getD (i + k + 2) 0 = x2 at *
      generalize u.getD (i + k + 1) 0 = x1 at *
      generalize u.getD (i + k) 0 = x0 at *
      generalize v.getD (k + 1) 0 = y1 at *
      generalize v.getD k 0 = y0 at *
      clear t1 t2 t3 hres
      refine cndt ?_
      refine .skip ?_
      show AW _ _ _ _ _ _
      refine .gh (Gh.keep [4, 7, 8, 9, 10, 11] rfl) ?_
      refine .seq ?_
      refine .block ?_
      refine .seq ?_
      refine .drawn 31 mixed (by kernel_rfl) ?_
      refine dv vmvo ?_
      refine dv vmvd ?_
      refine dv vmvd ?_
      refine dv (vad ((i + k + 2 : Nat) : Int) ?_) ?_
      · rw [L_length]; omega
      refine dv (vixr (i + k + 2) ?_ ?_ s32 (by decide)) ?_
      · rfl
      · rw [L_length]; omega
      refine dv (vlde (U x2) ?_ a32) ?_
      · rw [Nat.zero_add]; exact L_at' hx2
      refine dv vmvo ?_
      refine dv vmvd ?_
      refine dv vmvd ?_
      refine dv (vad ((i + k + 2 : Nat) : Int) ?_) ?_
      · rw [L_length]; omega
      refine dv (vsu ((i + k + 1 : Nat) : Int) ?_) ?_
      · omega
      refine dv (vixr (i + k + 1) ?_ ?_ s32 (by decide)) ?_
      · rfl
      · rw [L_length]; omega
      refine dv (vlde (U x1) ?_ a32) ?_
      · rw [Nat.zero_add]; exact L_at' hx1
      refine dv vmvo ?_
      refine dv vmvd ?_
      refine dv vmvd ?_
      refine dv (vad ((i + k + 2 : Nat) : Int) ?_) ?_
      · rw [L_length]; omega
      refine dv (vsu ((i + k : Nat) : Int) ?_) ?_
      · omega
      refine dv (vixr (i + k) ?_ ?_ s32 (by decide)) ?_
      · rfl
      · rw [L_length]; omega
      refine dv (vlde (U x0) ?_ a32) ?_
      · rw [Nat.zero_add]; exact L_at' hx0'
      refine dv vmvd ?_
      refine dv vmvd ?_
      refine dv (vsu ((k + 1 : Nat) : Int) ?_) ?_
      · rw [L_length]; omega
      refine dv (vix (k + 1) rfl (L_at hy1) rfl s32) ?_
      refine dv (vldp a32) ?_
      refine dv vmvd ?_
      refine dv vmvd ?_
      refine dv (vsu ((k : Nat) : Int) ?_) ?_
      · rw [L_length]; omega
      refine dv (vix k rfl (L_at hy0) rfl s32) ?_
      refine dv (vldp a32) ?_
      refine dv (v := .d (.i .u64 (g : Int))) (vcl (xs := [U x2, U x1, U x0, U y1, U y0]) (r := .d (.i .u64 (g : Int))) fg Try.call152) ?_
      refine dz ?_
      refine asd ?_
      refine rn ?_
      refine .gh (Gh.keep [4, 7, 8, 9, 10, 11, 12] rfl) ?_
      rw [show ((i + 1 : Nat) : Int) - 1 = (i : Int) by omega]
      refine .mid (fun e H' => ∃ u', Ok u' ∧ u'.length = u.length ∧ u'.take i = u.take i ∧ val (u'.drop i) = val (u.drop i) % val v ∧ e = [(4, .own 125 (L q)), (7, .d (.i .i64 (n : Int))), (8, .own 125 (L u')), (9, .d (.sl (L v))), (10, .d (.i .i64 ((L v).length : Nat))), (11, .d (.i .i64 (i : Int))), (12, .d (.i .u64 ((val (u.drop i) / val v : Nat) : Int)))]) ?_ ?_
      · refine .seq ?_
        refine .region ?_
        refine mvo ?_
        refine mvd ?_
        refine mvd ?_
        refine mvd ?_
        refine clg1 (L u1) (fun G2 => ?_) ftk Try.call153
        refine bi ?_
        refine rn ?_
        by_cases hbf : bf = 0
        · subst hbf
          obtain ⟨r1, r2⟩ := round0 (g := g) (W := val (u1.drop i)) hVpos (by simpa using w6) g1
          rw [decide_eq_false (show ¬ (0 : Int) < ((0 : Nat) : Int) by omega)]
          refine cndf ?_
          refine .gh (Gh.keep [4, 7, 8, 9, 10, 11, 12] rfl) ?_
          refine .skip ?_
          exact ⟨u1, w1, w2, w3, r2, by rw [← r1]; rfl⟩
        · have hbf1 : bf = 1 := by omega
          subst hbf1
          rw [decide_eq_true (show (0 : Int) < ((1 : Nat) : Int) by omega)]
          obtain ⟨ag, hag⟩ : ∃ ag, addGo v u1 0 i = ag := ⟨_, rfl⟩
          obtain ⟨wl, c⟩ := ag
          obtain ⟨z1, z2, z3, z4, ⟨ec, z5⟩, z6⟩ := add_window (u := u1) (v := v) (i := i) w1 ov (by omega) w5 hag rfl
          rw [Nat.one_mul] at w6
          obtain ⟨r1, r2, r3⟩ := round1 (T := val (u.drop i)) hVpos w6 w7 g2 z5 z6 (by rw [lv, Nat.pow_succ]; omega)
          have hwl := addGo_val v u1 0 i ov w1 (by decide) (by omega)
          rw [hag] at hwl
          obtain ⟨y1', y2', y3', y4', _, _⟩ := hwl
          dsimp only at y1' y2' y3' y4'
          have hxw := getD_some (u := wl) (j := i + v.length) (by omega)
          generalize wl.getD (i + v.length) 0 = xw at *
          refine cndt ?_
          refine .gh (Gh.keep [4, 7, 8, 9, 10, 11, 12] rfl) ?_
          refine .seq ?_
          refine .region ?_
          refine mvd ?_
          refine bie (.i .u64 ((g - 1 : Nat) : Int)) ?_ ?_
          · refine ⟨trivial, ?_⟩
            rw [show (g : Int) - 1 = ((g - 1 : Nat) : Int) by omega, toU64 (by omega)]
          refine asd ?_
          refine rn ?_
          rw [r1]
          refine .seq ?_
          refine .region ?_
          refine asd ?_
          refine rn ?_
          refine .mid (fun e H' => e = [(4, .own 125 (L q)), (7, .d (.i .i64 (n : Int))), (8, .own 125 (L wl)), (9, .d (.sl (L v))), (10, .d (.i .i64 ((L v).length : Nat))), (11, .d (.i .i64 (i : Int))), (12, .d (.i .u64 ((val (u.drop i) / val v : Nat) : Int))), (13, .d (.i .u32 (c : Int)))]) ?_ ?_
          · refine .seq ?_
            refine .region ?_
            refine mvd ?_
            refine ln ?_ (L_sz _) l32
            refine mvd ?_
            refine rn ?_
            refine .block ?_
            refine .loop (.gh (Gh.keep [4, 7, 8, 9, 10, 11, 12, 13, 117, 118, 119] rfl) ?_)
            refine AL.ind (σ := Nat × List Nat × Nat) (m := fun s => v.length - s.1) (e := fun s => [(4, .own 125 (L q)), (7, .d (.i .i64 (n : Int))), (8, .own 125 (L s.2.1)), (9, .d (.sl (L v))), (10, .d (.i .i64 ((L v).length : Nat))), (11, .d (.i .i64 (i : Int))), (12, .d (.i .u64 ((val (u.drop i) / val v : Nat) : Int))), (13, .d (.i .u32 (s.2.2 : Int))), (117, .d (.sl (L v))), (118, .d (.i .i64 ((L v).length : Nat))), (119, .d (.i .i64 (s.1 : Int)))]) (h := fun _ => G ++ G2)
              (I := fun s => s.1 ≤ v.length ∧ Ok s.2.1 ∧ s.2.1.length = u.length ∧ s.2.2 ≤ 1 ∧ addGo (v.drop s.1) s.2.1 s.2.2 (i + s.1) = (wl, c)) ?_ (0, u1, 0) ⟨Nat.zero_le _, w1, w2, by simp, hag⟩
            rintro ⟨j, uu, cc⟩ ⟨a1, a2', a3, a4, a5⟩ ih2
            dsimp only at a1 a2' a3 a4 a5 ih2 ⊢
            refine .seq ?_
            refine .region ?_
            refine bi ?_
            refine rn ?_
            refine .seq ?_
            by_cases hj : j < v.length
            · rw [decide_eq_true (show (j : Int) < ((L v).length : Nat) by rw [L_length]; omega)]
              have hyv : v[j]? = some v[j] := List.getElem?_eq_getElem hj
              have hdr : v.drop j = v[j] :: v.drop (j + 1) := List.drop_eq_getElem_cons hj
              generalize v[j] = yv at hyv hdr
              rw [hdr, addGo_cons] at a5
              have hyvl := ov.at hyv
              have hxv := getD_some (u := uu) (j := i + j) (by omega)
              have hxvl := getD_lt a2' (i + j)
              have fadd := Add32_fn hxvl hyvl (show cc < 4294967296 by omega)
              have hrr : (uu.getD (i + j) 0 + yv + cc) % 4294967296 < 4294967296 := Nat.mod_lt _ (by decide)
              have hc1 : (uu.getD (i + j) 0 + yv + cc) / 4294967296 ≤ 1 := by omega
              generalize (uu.getD (i + j) 0 + yv + cc) % 4294967296 = rr at *
              generalize (uu.getD (i + j) 0 + yv + cc) / 4294967296 = c' at *
              generalize uu.getD (i + j) 0 = xv at *
              refine cndt ?_
              refine .skip ?_
              show AW _ _ _ _ _ _
              refine .seq ?_
              refine .block ?_
              refine .seq ?_
              refine .region ?_
              refine mvd ?_
              refine ix j ?_ rfl (L_at hyv) rfl s32
              refine ldp ?_ a32
              refine asd ?_
              refine asd ?_
              refine rn ?_
              refine .region ?_
              refine mvo ?_
              refine mvd ?_
              refine mvd ?_
              refine ad ((i + j : Nat) : Int) ?_ ?_
              · omega
              refine mvo ?_
              refine mvd ?_
              refine mvd ?_
              refine ad ((i + j : Nat) : Int) ?_ ?_
              · omega
              refine ixr (i + j) ?_ ?_ ?_ s32 (by decide)
              · rfl
              · rw [L_length]; omega
              refine lde (U xv) ?_ ?_ a32
              · rw [Nat.zero_add]; exact L_at' hxv
              refine mvd ?_
              refine mvd ?_
              refine cl (xs := [U xv, U yv, U cc]) ?_ fadd Try.call154
              refine mvt ?_
              refine ex ?_
              refine ex ?_
              refine ixr (i + j) ?_ ?_ ?_ s32 (by decide)
              · rfl
              · rw [L_length]; omega
              refine ste ?_ ?_ z32
              · rw [Nat.zero_add]; exact L_leaf hxv
              refine asd ?_
              refine .nil ?_
              show AW _ _ _ _ _ _
              refine .region ?_
              refine ad ((j + 1 : Nat) : Int) ?_ ?_
              · omega
              refine mvd ?_
              refine rn ?_
              refine .gh (Gh.keep [4, 7, 8, 9, 10, 11, 12, 13, 117, 118, 119] rfl) ?_
              have := ih2 (j + 1, uu.set (i + j) rr, c') ⟨by dsimp only; omega, a2'.set _ hrr, by dsimp only; rw [List.length_set]; exact a3, hc1, a5⟩ (by dsimp only; omega)
              dsimp only at this
              rw [← L_set0] at this
              exact this
            · rw [decide_eq_false (show ¬ (j : Int) < ((L v).length : Nat) by rw [L_length]; omega)]
              refine cndf ?_
              refine .gh (Gh.keep [4, 7, 8, 9, 10, 11, 12, 13] rfl) ?_
              refine .exit ?_
              have hje : j = v.length := by omega
              subst hje
              rw [List.drop_eq_nil_of_le (Nat.le_refl _)] at a5
              have e1 : uu = wl ∧ cc = c := by simpa [addGo] using a5
              show _ = _
              rw [← e1.1, ← e1.2]; rfl
          rintro _ H3 rfl
          refine .region ?_
          refine mvo ?_
          refine mvd ?_
          refine mvd ?_
          refine ad ((i + v.length : Nat) : Int) ?_ ?_
          · rw [L_length]; omega
          refine ixr (i + v.length) ?_ ?_ ?_ s32 (by decide)
          · rfl
          · rw [L_length]; omega
          refine lde (U xw) ?_ ?_ a32
          · rw [Nat.zero_add]; exact L_at' hxw
          refine mvd ?_
          refine bie (.i .u32 (((xw + c) % 4294967296 : Nat) : Int)) ?_ ?_
          · exact ⟨trivial, by rw [← Int.natCast_add, wrapU32]⟩
          refine ixr (i + v.length) ?_ ?_ ?_ s32 (by decide)
          · rfl
          · rw [L_length]; omega
          refine ste ?_ ?_ z32
          · rw [Nat.zero_add]; exact L_leaf hxw
          refine RL.gh (Gh.keep [4, 7, 8, 9, 10, 11, 12] rfl) ?_
          refine .nil ?_
          exact ⟨_, z1, by rw [z2]; exact w2, by rw [z3]; exact w3, r2, by rw [← L_set0]; rfl⟩
      rintro _ G3 ⟨u', p1, p2, p3, p4, rfl⟩
      have hq0 := h8 i (by omega)
      have hQlt : val (u.drop i) / val v < 4294967296 := by omega
      have hdm := Nat.div_add_mod (val (u.drop i)) (val v)
      have hml := Nat.mod_lt (val (u.drop i)) hVpos
      have hqs := set_val hq0 (y := val (u.drop i) / val v)
      have hnew : val u' + val v * val (q.set i (val (u.drop i) / val v)) = val a * 2 ^ n := by
        have e1 := val_split u i (by omega)
        have e2 := val_split u' i (by omega)
        rw [p3, p4] at e2
        rw [e1] at h6
        rw [e2]
        exact total_step h6 hdm.symm hqs
      generalize val (u.drop i) / val v = Q at *
      refine .region ?_
      refine mvo ?_
      refine mvd ?_
      refine mvd ?_
      refine cve (Q : Int) (toU32 hQlt) ?_ u64 u32
      refine ixr i ?_ ?_ ?_ s32 (by decide)
      · rfl
      · rw [L_length]; omega
      refine ste ?_ ?_ z32
      · rw [Nat.zero_add]; exact L_leaf hq0
      refine .nil ?_
      show AW _ _ _ _ _ _
      refine .region ?_
      refine mvd ?_
      refine su ((i : Int) - 1) ?_ ?_
      · omega
      refine asd ?_
      refine rn ?_
      refine .gh (Gh.keep [4, 7, 8, 9, 10, 11] rfl) ?_
      have := ih (i, u', q.set i Q, G3) ⟨by dsimp only; omega, p1, h3.set _ hQlt, by dsimp only; rw [p2]; exact h4, by dsimp only; rw [List.length_set]; exact h5, hnew, by dsimp only; rw [p4]; exact hml, fun j hj => by
        dsimp only at hj ⊢
        rw [List.getElem?_set_ne (by omega)]
        exact h8 j (by omega)⟩ (by dsimp only; omega)
      dsimp only at this
      rw [← L_set0] at this
      exact this
  rintro _ H4 ⟨u, q, h2, h3, h4, h5, h6, h7, rfl⟩
  obtain ⟨d1, d2⟩ := hdend _ _ h6 h7
  have htk : val (u.take v.length) = val u := by
    have e1 := val_split u v.length (by omega)
    have e2 := val_zero_drop (u := u) (k := v.length) (by omega) (by rw [lv]; omega)
    rw [e2, Nat.mul_zero, Nat.add_zero] at e1
    exact e1.symm
  have fbk := back_fn (a := u.take v.length) (n := n) (h2.take _) (by rw [List.length_take]; omega) hn32
  rw [htk, d2] at fbk
  have e9 : ((L u).drop 0).take (v.length - 0) = L (u.take v.length) := by rw [List.drop_zero, Nat.sub_zero, L_take]
  rw [← e9] at fbk
  have fct := cut_val (a := q) h3 (by omega)
  rw [← d1] at fct
  refine .gh (Gh.frz (p := .t 4) rfl (fun _ _ h => by cases h)) ?_
  refine .gh (Gh.frz (p := .t 8) rfl (fun _ _ h => by cases h)) ?_
  refine .gh (Gh.keep [4, 7, 8, 10] rfl) ?_
  refine .seq ?_
  refine .drawn 7 mixed (by kernel_rfl) ?_
  refine dv vmvd ?_
  refine dv (v := .d (.sl (L (digs (val a / val b))))) (vcl (xs := [.sl (L q)]) (r := .d (.sl (L (digs (val a / val b))))) fct Try.call127) ?_
  refine dv vmvd ?_
  refine dv vmvd ?_
  refine dv (vsl 0 v.length ?_ (L_sz1 _) s32) ?_
  · rw [L_length, L_length]; omega
  refine dv vmvd ?_
  refine dv (v := .d (.sl (L (digs (val a % val b))))) (vcl (xs := [.sl (((L u).drop 0).take (v.length - 0)), .i .i64 (n : Int)]) (r := .d (.sl (L (digs (val a % val b))))) fbk Try.call155) ?_
  refine dz ?_
  refine asd ?_
  refine asd ?_
  refine asd ?_
  refine rn ?_
  refine .ret ?_
  exact ⟨by decide, by rw [remN, if_neg h0, decide_eq_true h0]; rfl, rfl, rfl, rfl⟩
end Go.FL
/-
  nat.Gcd: Euclid's way, number after number.
-/
namespace Go.FL
open Go Go.Proofs

/-- The greatest divisor of a list's numbers. -/
def gcdF (ls : List (List Nat)) : Nat := ls.foldl (fun g a => Nat.gcd g (val a)) 0
theorem gcdF_snoc (ls : List (List Nat)) (y : List Nat) : gcdF (ls ++ [y]) = Nat.gcd (gcdF ls) (val y) := by
  rw [gcdF, gcdF, List.foldl_append]; rfl
theorem gcd_lt {g x P : Nat} (hg : g < P) (hx : x < P) : Nat.gcd g x < P := by
  by_cases h : x = 0
  · subst h; rwa [Nat.gcd_zero_right]
  · exact Nat.lt_of_le_of_lt (Nat.gcd_le_right g (Nat.pos_of_ne_zero h)) hx
theorem gcd_step {g x : Nat} : Nat.gcd x (g % x) = Nat.gcd g x := by
  rw [Nat.gcd_comm g x, Nat.gcd_rec x g, Nat.gcd_comm]
theorem Gcd_fn {M : Nat} {ls : List (List Nat)} (h : ∀ a ∈ ls, Ok a) (hM : ∀ a ∈ ls, a.length ≤ M) (hl : ls.length ≤ 1000) (hM2 : M ≤ 500000) : Fn Try.prog 114 [.sl (LL ls)] (.d (.sl (L (digs (gcdF ls))))) := by
  have hv : ∀ a ∈ ls, val a < 4294967296 ^ M := fun a ha => Nat.lt_of_lt_of_le (val_lt (h a ha)) (Nat.pow_le_pow_right (by decide) (hM a ha))
  have hP : 0 < 4294967296 ^ M := Nat.pow_pos (by decide)
  refine Fn.of (rs := [.tmp 2]) (nt := 31) Try.func114 rfl rfl rfl (by simp) rfl ?_
  refine .seq ?_
  refine .region ?_
  refine asn ?_
  refine rn ?_
  refine .seq ?_
  refine .region ?_
  refine asn ?_
  refine rn ?_
  refine .mid (fun e H' => e = [(3, .d (.sl (L (digs (gcdF ls)))))]) ?_ ?_
  · refine .seq ?_
    refine .region ?_
    refine mvd ?_
    refine ln ?_ (LL_sz _) l2
    refine mvd ?_
    refine rn ?_
    refine .block ?_
    refine .gh (Gh.nlD (t := 3) rfl) ?_
    refine .loop (.gh (Gh.keep [3, 9, 10, 11] rfl) ?_)
    refine AL.cast (env' := [(3, .d (.sl (L (digs (gcdF (ls.take 0)))))), (9, .d (.sl (LL ls))), (10, .d (.i .i64 ((LL ls).length : Nat))), (11, .d (.i .i64 ((0 : Nat) : Int)))]) (by rw [List.take_zero]; show _ = [(3, AV.d (.sl (L (digs 0)))), (9, AV.d (.sl (LL ls))), _, _]; rw [digs_zero]; rfl) ?_
    refine AL.ind (σ := Nat) (m := fun i => ls.length - i) (e := fun i => [(3, .d (.sl (L (digs (gcdF (ls.take i)))))), (9, .d (.sl (LL ls))), (10, .d (.i .i64 ((LL ls).length : Nat))), (11, .d (.i .i64 (i : Int)))]) (h := fun _ => [])
      (I := fun i => i ≤ ls.length ∧ gcdF (ls.take i) < 4294967296 ^ M) ?_ 0 ⟨Nat.zero_le _, by rw [List.take_zero]; exact hP⟩
    rintro i ⟨h1, h2⟩ ih
    refine .seq ?_
    refine .region ?_
    refine bi ?_
    refine rn ?_
    refine .seq ?_
    by_cases hi : i < ls.length
    · rw [decide_eq_true (show (i:Int) < ((LL ls).length : Nat) by rw [LL_length]; omega)]
      have hy : ls[i]? = some ls[i] := List.getElem?_eq_getElem hi
      have htk : ls.take (i + 1) = ls.take i ++ [ls[i]] := List.take_succ_eq_append_getElem hi
      generalize ls[i] = y at hy htk
      have hyo := h y (List.mem_of_getElem? hy)
      have hyl := hM y (List.mem_of_getElem? hy)
      have hyv := hv y (List.mem_of_getElem? hy)
      have hst : gcdF (ls.take (i + 1)) = Nat.gcd (gcdF (ls.take i)) (val y) := by rw [htk, gcdF_snoc]
      generalize gcdF (ls.take i) = g at *
      refine cndt ?_
      refine .skip ?_
      show AW _ _ _ _ _ _
      refine .seq ?_
      refine .block ?_
      refine .seq ?_
      refine .region ?_
      refine ix i ?_ rfl (LL_at hy) rfl s2
      refine ldp ?_ a2
      refine asd ?_
      refine rn ?_
      refine .seq ?_
      refine .region ?_
      refine mvd ?_
      refine cl (xs := [.sl (L y)]) ?_ (Trim_fn hyo (by omega)) Try.call138
      refine aso ?_
      refine RL.gh (Gh.frz (p := .t 5) rfl (fun _ _ h => by cases h)) ?_
      refine rn ?_
      refine .block ?_
      refine .loop (.gh (Gh.keep [3, 5, 9, 10, 11] rfl) ?_)
      refine AL.ind (σ := Nat × Nat) (m := fun s => s.2) (e := fun s => [(3, .d (.sl (L (digs s.1)))), (5, .d (.sl (L (digs s.2)))), (9, .d (.sl (LL ls))), (10, .d (.i .i64 ((LL ls).length : Nat))), (11, .d (.i .i64 (i : Int)))]) (h := fun _ => [])
        (I := fun s => s.1 < 4294967296 ^ M ∧ s.2 < 4294967296 ^ M ∧ Nat.gcd s.1 s.2 = Nat.gcd g (val y)) ?_ (g, val y) ⟨h2, hyv, rfl⟩
      rintro ⟨p, x⟩ ⟨g1, g2, g3⟩ ih2
      dsimp only at g1 g2 g3 ih2 ⊢
      refine .seq ?_
      refine .seq ?_
      refine .region ?_
      refine mvd ?_
      refine ln ?_ (L_sz _) l32
      refine bi ?_
      refine rn ?_
      by_cases hx : x = 0
      · subst hx
        rw [decide_eq_false (show ¬ (0 : Int) < ((L (digs 0)).length : Nat) by rw [digs_zero]; decide)]
        rw [Nat.gcd_zero_right, ← hst] at g3
        refine cndf ?_
        refine .exit ?_
        show AW _ _ _ _ _ _
        refine .region ?_
        refine ad ((i + 1 : Nat) : Int) ?_ ?_
        · omega
        refine mvd ?_
        refine rn ?_
        refine .gh (Gh.keep [3, 9, 10, 11] rfl) ?_
        rw [g3]
        exact ih (i + 1) ⟨by omega, by rw [← g3]; exact g1⟩ (by omega)
      · have hd := digs_ne (m := x) (by omega)
        rw [decide_eq_true (show (0 : Int) < ((L (digs x)).length : Nat) by rw [L_length]; omega)]
        have fd := DivMod_fn (a := digs p) (b := digs x) (digs_ok _) (digs_ok _) (Nat.le_trans (digs_len g1) hM2) (Nat.le_trans (digs_len g2) hM2)
        rw [val_digs, val_digs, remN, if_neg hx] at fd
        refine cndt ?_
        refine .skip ?_
        show AW _ _ _ _ _ _
        refine .block ?_
        refine .seq ?_
        refine .region ?_
        refine mvd ?_
        refine mvd ?_
        refine cl (xs := [.sl (L (digs p)), .sl (L (digs x))]) ?_ fd Try.call139
        refine mvt ?_
        refine ex ?_
        refine ex ?_
        refine ex ?_
        refine asd ?_
        refine asd ?_
        refine asd ?_
        refine rn ?_
        refine .region ?_
        refine mvd ?_
        refine mvd ?_
        refine asd ?_
        refine asd ?_
        refine .nil ?_
        refine AL.gh (Gh.keep [3, 5, 9, 10, 11] rfl) ?_
        have hlt := Nat.mod_lt p (Nat.pos_of_ne_zero hx)
        exact ih2 (x, p % x) ⟨g2, by show p % x < _; omega, by show Nat.gcd x (p % x) = _; rw [gcd_step, g3]⟩ hlt
    · rw [decide_eq_false (show ¬ (i:Int) < ((LL ls).length : Nat) by rw [LL_length]; omega)]
      refine cndf ?_
      refine .gh (Gh.keep [3] rfl) ?_
      refine .exit ?_
      have e1 : ls.take i = ls := List.take_of_length_le (by omega)
      show _ = _
      rw [e1]; rfl
  rintro _ _ rfl
  refine .seq ?_
  refine .region ?_
  refine mvd ?_
  refine asd ?_
  refine rn ?_
  refine .ret ?_
  exact ⟨rfl, rfl⟩
end Go.FL
/-
  glyphref01: half, gcd (by halves and differences), Gcd.
-/
namespace Go.FL
open Go Go.Proofs

theorem u64_and1 (m : Nat) (h : m < 18446744073709551616) : bits .and .u64 (m : Int) 1 = ((m % 2 : Nat) : Int) := by
  have := bits_mask .u64 64 (by decide) wraps_u64 1 (by decide) (m : Int) (by omega) (by omega)
  rw [show (2 : Int) ^ 1 - 1 = 1 by decide] at this
  rw [this]; simp
theorem half_join {x y : Nat} (hx : x < 4294967296) : bits .or .u32 ((x / 2 : Nat) : Int) ((y % 2 * 2147483648 : Nat) : Int) = (((x + y * 4294967296) / 2 ^ 1 % 4294967296 : Nat) : Int) := by
  rw [bits_join_low .u32 32 (by decide) wraps_u32 31 _ _ (by omega) (by omega) (by omega) (by omega) (by omega) (by omega)]
  omega
theorem headD_drop (a : List Nat) (i : Nat) : (a.drop i).headD 0 = a.getD i 0 := by
  rw [List.headD_eq_head?_getD, List.head?_drop, List.getD_eq_getElem?_getD]
theorem half_fn {a : List Nat} (ha : Ok a) (hl : a.length ≤ 1000000) : Fn Try.prog 140 [.sl (L a)] (.own 125 (L (digs (val a / 2)))) := by
  obtain ⟨s1, s2⟩ := shR_val (n := 1) (by decide) a ha
  have s3 := shR_length 1 a
  refine Fn.of (rs := [.tmp 2]) (nt := 29) Try.func140 rfl rfl rfl (by simp) rfl ?_
  refine .seq ?_
  refine .region ?_
  refine asn ?_
  refine rn ?_
  refine .seq ?_
  refine .region ?_
  refine asn ?_
  refine rn ?_
  refine .mid (fun e H' => e = [(3, .own 125 (L (shR 1 a)))] ∧ H' = []) ?_ ?_
  · refine .seq ?_
    refine .region ?_
    refine asd ?_
    refine rn ?_
    refine .block ?_
    refine .gh (Gh.nlOwn (t := 3) 125 z32p rfl) ?_
    refine .loop (.gh (Gh.keep [0, 3, 4] rfl) ?_)
    refine AL.ind (σ := Nat) (m := fun i => a.length - i) (e := fun i => [(0, .d (.sl (L a))), (3, .own 125 (L ((shR 1 a).take i))), (4, .d (.i .i64 (i : Int)))]) (h := fun _ => [])
      (I := fun i => i ≤ a.length) ?_ 0 (Nat.zero_le _)
    intro i h1 ih
    refine .seq ?_
    refine .seq ?_
    refine .region ?_
    refine mvd ?_
    refine mvd ?_
    refine ln ?_ (L_sz _) l32
    refine bi ?_
    refine rn ?_
    by_cases hi : i < a.length
    · rw [decide_eq_true (show (i : Int) < ((L a).length : Nat) by rw [L_length]; omega)]
      have hx : a[i]? = some a[i] := List.getElem?_eq_getElem hi
      generalize a[i] = x at hx
      have hxl := ha.at hx
      have hyl := getD_lt ha (i + 1)
      have hsh := shR_at 1 a i x hx
      rw [headD_drop] at hsh
      have flm := limb_fn (a := a) ha (i := i + 1) (by omega)
      have htk : (shR 1 a).take (i + 1) = (shR 1 a).take i ++ [(x + a.getD (i + 1) 0 * 4294967296) / 2 ^ 1 % 4294967296] := by
        rw [List.take_add_one, hsh]; rfl
      generalize a.getD (i + 1) 0 = y at *
      have hout : ((shR 1 a).take i).length = i := by rw [List.length_take]; omega
      generalize (shR 1 a).take i = out at *
      have hj := half_join (x := x) (y := y) hxl
      generalize (x + y * 4294967296) / 2 ^ 1 % 4294967296 = z at *
      have hsz : ∀ d ∈ L [z], d.flat = true ∧ d.cells.length = 1 := by
        intro d hd
        simp only [L, List.map_cons, List.map_nil, List.mem_cons, List.not_mem_nil, or_false] at hd
        subst hd; exact ⟨rfl, rfl⟩
      refine cndt ?_
      refine .skip ?_
      show AW _ _ _ _ _ _
      refine .seq ?_
      refine .block ?_
      refine .drawn 15 mixed (by kernel_rfl) ?_
      refine dv vmvo ?_
      refine dv vmvd ?_
      refine dv vmvd ?_
      refine dv (vix i rfl (L_at hx) rfl s32) ?_
      refine dv (vldp a32) ?_
      refine dv (vbie (.i .u32 ((x / 2 : Nat) : Int)) ?_) ?_
      · simp [IntKind.bits]
      refine dv vmvd ?_
      refine dv vmvd ?_
      refine dv (vad ((i + 1 : Nat) : Int) ?_) ?_
      · omega
      refine dv (v := .d (.i .u64 (y : Int))) (vcl (xs := [.sl (L a), .i .i64 ((i + 1 : Nat) : Int)]) flm Try.call156) ?_
      refine dv (vbie (.i .u64 ((y % 2 : Nat) : Int)) ?_) ?_
      · exact ⟨trivial, by rw [u64_and1 y (by omega)]⟩
      refine dv (vcve ((y % 2 : Nat) : Int) (toU32 (by omega)) u64 u32) ?_
      refine dv (vbie (.i .u32 ((y % 2 * 2147483648 : Nat) : Int)) ?_) ?_
      · refine ⟨by decide, ?_⟩
        have : IntKind.u32.wrap ((y % 2 * 2147483648 : Nat) : Int) = ((y % 2 * 2147483648 : Nat) : Int) := toU32 (by omega)
        rw [← this]; simp [IntKind.bits]
      refine dv (vbie (.i .u32 (z : Int)) ?_) ?_
      · exact ⟨trivial, by rw [hj]⟩
      refine dv (v := .d (.sl (L [z]))) (vbsl hsz e32).deep ?_
      refine dz ?_
      refine apr ?_ ?_ (L_sz1 [z]) e32
      · simp [L_length]; omega
      refine aso ?_
      refine .nil ?_
      show AW _ _ _ _ _ _
      refine .region ?_
      refine mvd ?_
      refine ad ((i + 1 : Nat) : Int) ?_ ?_
      · omega
      refine asd ?_
      refine rn ?_
      refine .gh (Gh.keep [0, 3, 4] rfl) ?_
      have := ih (i + 1) (by omega) (by omega)
      rw [htk, ← L_snoc] at this
      exact this
    · rw [decide_eq_false (show ¬ (i : Int) < ((L a).length : Nat) by rw [L_length]; omega)]
      refine cndf ?_
      refine .gh (Gh.keep [3] rfl) ?_
      refine .exit ?_
      have e1 : (shR 1 a).take i = shR 1 a := List.take_of_length_le (by omega)
      exact ⟨by rw [e1]; rfl, rfl⟩
  rintro _ _ ⟨rfl, rfl⟩
  refine .gh (Gh.frz (p := .t 3) rfl (fun _ _ h => by cases h)) ?_
  refine .seq ?_
  refine .region ?_
  refine mvd ?_
  refine cl (xs := [.sl (L (shR 1 a))]) ?_ (refTrim_fn s2 (by omega)) Try.call116
  refine aso ?_
  refine rn ?_
  refine .ret ?_
  exact ⟨by rw [s1]; rfl, rfl⟩

theorem gcd_even {k y : Nat} (h : y % 2 = 1) : Nat.gcd (2 * k) y = Nat.gcd k y := by
  have hc : Nat.Coprime 2 y := by rw [Nat.coprime_iff_gcd_eq_one, Nat.gcd_rec, h]; decide
  exact hc.gcd_mul_left_cancel k
theorem gcd_halfL {x y : Nat} (hx : x % 2 = 0) (h : y % 2 = 1) : Nat.gcd (x / 2) y = Nat.gcd x y := by
  have := gcd_even (k := x / 2) h
  rw [show 2 * (x / 2) = x by omega] at this
  exact this.symm
theorem gcd_halfR {x y : Nat} (hx : x % 2 = 1) (h : y % 2 = 0) : Nat.gcd x (y / 2) = Nat.gcd x y := by
  rw [Nat.gcd_comm x, Nat.gcd_comm x]; exact gcd_halfL h hx
theorem gcd_subL {x y : Nat} (h : y ≤ x) : Nat.gcd (x - y) y = Nat.gcd x y := by
  have := Nat.gcd_sub_mul_right_left (m := y) (n := x) (k := 1) (by omega)
  rwa [Nat.one_mul] at this
theorem gcd_subR {x y : Nat} (h : x ≤ y) : Nat.gcd x (y - x) = Nat.gcd x y := by
  rw [Nat.gcd_comm x, Nat.gcd_comm x]; exact gcd_subL h
theorem gcd_end {x y : Nat} (h : x = 0 ∨ y = 0) : x + y = Nat.gcd x y := by
  rcases h with rfl | rfl <;> simp
theorem two_lim {x t M V : Nat} (h : x * 2 ^ t = V) (hx : 0 < x) (hV : V < 4294967296 ^ M) : t < 32 * M := by
  have h1 : 2 ^ t ≤ V := by rw [← h]; exact Nat.le_mul_of_pos_left _ hx
  have h2 : 2 ^ t < 2 ^ (32 * M) := by rw [Nat.pow_mul]; exact Nat.lt_of_le_of_lt h1 hV
  exact (Nat.pow_lt_pow_iff_right (by decide)).1 h2
theorem two_up {x t V : Nat} (h : x * 2 ^ t = V) (he : x % 2 = 0) : x / 2 * 2 ^ (t + 1) = V := by
  have : x = 2 * (x / 2) := by omega
  generalize x / 2 = k at *
  subst this
  rw [← h, Nat.pow_succ]; grind
theorem digs_head {x : Nat} (h : 0 < x) : (digs x)[0]? = some (x % 4294967296) := by
  rw [digs_pos (by omega)]; rfl
theorem par32 (x : Nat) : decide (((x % 4294967296 % 2 : Nat) : Int) = 0) = decide (x % 2 = 0) := by
  rw [show x % 4294967296 % 2 = x % 2 by omega]
  by_cases h : x % 2 = 0
  · rw [h]; rfl
  · rw [decide_eq_false h, decide_eq_false (by omega)]
theorem pos_ln {x : Nat} (h : 0 < x) : (0 : Int) < ((L (digs x)).length : Nat) := by
  have := digs_ne h
  rw [L_length]; omega
theorem cmp_ge {x y : Nat} : (0 : Int) ≤ cmpN x y ↔ y ≤ x := by
  unfold cmpN
  by_cases h1 : x < y
  · rw [if_pos h1]; omega
  · rw [if_neg h1]; split <;> omega
theorem minN_of {x y : Nat} (h : y ≤ x) : minN x y = x - y := by
  unfold minN; split <;> omega
theorem ref_gcd_fn {M : Nat} {a b : List Nat} (ha : Ok a) (hb : Ok b) (hla : a.length ≤ M) (hlb : b.length ≤ M) (hM : M ≤ 100000) : Fn Try.prog 117 [.sl (L a), .sl (L b)] (.d (.sl (L (digs (Nat.gcd (val a) (val b)))))) := by
  have hva : val a < 4294967296 ^ M := Nat.lt_of_lt_of_le (val_lt ha) (Nat.pow_le_pow_right (by decide) hla)
  have hvb : val b < 4294967296 ^ M := Nat.lt_of_lt_of_le (val_lt hb) (Nat.pow_le_pow_right (by decide) hlb)
  have hgl : Nat.gcd (val a) (val b) < 4294967296 ^ M := gcd_lt hva hvb
  have dl : ∀ {x : Nat}, x < 4294967296 ^ M → (digs x).length ≤ 100000 := fun h => Nat.le_trans (digs_len h) hM
  refine Fn.of (rs := [.tmp 4]) (nt := 90) Try.func117 rfl rfl rfl (by simp) rfl ?_
  refine .seq ?_
  refine .region ?_
  refine asn ?_
  refine rn ?_
  refine .seq ?_
  refine .region ?_
  refine mvd ?_
  refine cl (xs := [.sl (L a)]) ?_ (refTrim_fn ha (by omega)) Try.call116
  refine mvd ?_
  refine cl (xs := [.sl (L b)]) ?_ (refTrim_fn hb (by omega)) Try.call116
  refine aso ?_
  refine aso ?_
  refine rn ?_
  refine .gh (Gh.frz (p := .t 0) rfl (fun _ _ h => by cases h)) ?_
  refine .gh (Gh.frz (p := .t 1) rfl (fun _ _ h => by cases h)) ?_
  refine .seq ?_
  refine .region ?_
  refine asd ?_
  refine rn ?_
  refine .gh (Gh.keep [0, 1, 5] rfl) ?_
  refine .mid (fun e H' => H' = [] ∧ ∃ x y t, x < 4294967296 ^ M ∧ y < 4294967296 ^ M ∧ t ≤ 32 * M ∧ x * 2 ^ t = val a ∧ y * 2 ^ t = val b ∧ (x = 0 ∨ y = 0 ∨ x % 2 = 1 ∨ y % 2 = 1) ∧ e = [(0, .d (.sl (L (digs x)))), (1, .d (.sl (L (digs y)))), (5, .d (.i .i64 (t : Int)))]) ?_ ?_
  · refine .block ?_
    refine .loop ?_
    refine AL.ind (σ := Nat × Nat × Nat) (m := fun s => s.1) (e := fun s => [(0, .d (.sl (L (digs s.1)))), (1, .d (.sl (L (digs s.2.1)))), (5, .d (.i .i64 (s.2.2 : Int)))]) (h := fun _ => [])
      (I := fun s => s.1 < 4294967296 ^ M ∧ s.2.1 < 4294967296 ^ M ∧ s.2.2 ≤ 32 * M ∧ s.1 * 2 ^ s.2.2 = val a ∧ s.2.1 * 2 ^ s.2.2 = val b) ?_ (val a, val b, 0) ⟨hva, hvb, Nat.zero_le _, by simp, by simp⟩
    rintro ⟨x, y, t⟩ ⟨h1, h2, h3, h4, h5⟩ ih
    dsimp only at h1 h2 h3 h4 h5 ih ⊢
    refine .mid (fun e H' => H' = [] ∧ 0 < x ∧ 0 < y ∧ x % 2 = 0 ∧ y % 2 = 0 ∧ e = [(0, .d (.sl (L (digs x)))), (1, .d (.sl (L (digs y)))), (5, .d (.i .i64 (t : Int)))]) ?_ ?_
    · refine .seq ?_
      refine .region ?_
      refine mvd ?_
      refine ln ?_ (L_sz _) l32
      refine bi ?_
      refine mvd ?_
      by_cases hx : x = 0
      · rw [hx, decide_eq_false (show ¬ (0 : Int) < ((L (digs 0)).length : Nat) by rw [digs_zero]; decide)]
        refine gf ?_
        refine gf ?_
        refine gf ?_
        refine pkd ?_
        refine mvd ?_
        refine gf ?_
        refine gf ?_
        refine gf ?_
        refine gf ?_
        refine gf ?_
        refine pkd ?_
        refine mvd ?_
        refine gf ?_
        refine gf ?_
        refine gf ?_
        refine gf ?_
        refine gf ?_
        refine pkd ?_
        refine rn ?_
        refine cndf ?_
        refine .gh (Gh.keep [0, 1, 5] rfl) ?_
        refine .exit ?_
        subst hx
        exact ⟨rfl, 0, y, t, h1, h2, h3, h4, h5, .inl rfl, rfl⟩
      rw [decide_eq_true (pos_ln (show 0 < x by omega))]
      refine mvd ?_
      refine ln ?_ (L_sz _) l32
      refine bi ?_
      by_cases hy : y = 0
      · rw [hy, decide_eq_false (show ¬ (0 : Int) < ((L (digs 0)).length : Nat) by rw [digs_zero]; decide)]
        refine pkd ?_
        refine mvd ?_
        refine gf ?_
        refine gf ?_
        refine gf ?_
        refine gf ?_
        refine gf ?_
        refine pkd ?_
        refine mvd ?_
        refine gf ?_
        refine gf ?_
        refine gf ?_
        refine gf ?_
        refine gf ?_
        refine pkd ?_
        refine rn ?_
        refine cndf ?_
        refine .gh (Gh.keep [0, 1, 5] rfl) ?_
        refine .exit ?_
        subst hy
        exact ⟨rfl, x, 0, t, h1, h2, h3, h4, h5, .inr (.inl rfl), rfl⟩
      rw [decide_eq_true (pos_ln (show 0 < y by omega))]
      refine pkd ?_
      refine mvd ?_
      refine mvd ?_
      refine ix 0 ?_ rfl (L_at (digs_head (show 0 < x by omega))) rfl s32
      refine ldp ?_ a32
      refine bie (.i .u32 ((x % 4294967296 % 2 : Nat) : Int)) ?_ ?_
      · exact ⟨trivial, by rw [u32_and1 _ (Nat.mod_lt _ (by decide))]⟩
      refine bi ?_
      rw [par32]
      by_cases hx2 : x % 2 = 0
      · rw [decide_eq_true hx2]
        refine pkd ?_
        refine mvd ?_
        refine mvd ?_
        refine ix 0 ?_ rfl (L_at (digs_head (show 0 < y by omega))) rfl s32
        refine ldp ?_ a32
        refine bie (.i .u32 ((y % 4294967296 % 2 : Nat) : Int)) ?_ ?_
        · exact ⟨trivial, by rw [u32_and1 _ (Nat.mod_lt _ (by decide))]⟩
        refine bi ?_
        rw [par32]
        by_cases hy2 : y % 2 = 0
        · rw [decide_eq_true hy2]
          refine pkd ?_
          refine rn ?_
          refine cndt ?_
          refine .gh (Gh.keep [0, 1, 5] rfl) ?_
          refine .skip ?_
          exact ⟨rfl, by omega, by omega, hx2, hy2, rfl⟩
        · rw [decide_eq_false hy2]
          refine pkd ?_
          refine rn ?_
          refine cndf ?_
          refine .gh (Gh.keep [0, 1, 5] rfl) ?_
          refine .exit ?_
          exact ⟨rfl, x, y, t, h1, h2, h3, h4, h5, .inr (.inr (.inr (by omega))), rfl⟩
      · rw [decide_eq_false hx2]
        refine pkd ?_
        refine mvd ?_
        refine gf ?_
        refine gf ?_
        refine gf ?_
        refine gf ?_
        refine gf ?_
        refine pkd ?_
        refine rn ?_
        refine cndf ?_
        refine .gh (Gh.keep [0, 1, 5] rfl) ?_
        refine .exit ?_
        exact ⟨rfl, x, y, t, h1, h2, h3, h4, h5, .inr (.inr (.inl (by omega))), rfl⟩
    rintro _ _ ⟨rfl, hx, hy, hx2, hy2, rfl⟩
    have hlim := two_lim h4 hx hva
    have f1 := half_fn (a := digs x) (digs_ok x) (Nat.le_trans (dl h1) (by decide))
    have f2 := half_fn (a := digs y) (digs_ok y) (Nat.le_trans (dl h2) (by decide))
    rw [val_digs] at f1 f2
    refine .block ?_
    refine .seq ?_
    refine .region ?_
    refine mvd ?_
    refine cl (xs := [.sl (L (digs x))]) ?_ f1 Try.call140
    refine mvd ?_
    refine cl (xs := [.sl (L (digs y))]) ?_ f2 Try.call140
    refine aso ?_
    refine aso ?_
    refine rn ?_
    refine .gh (Gh.frz (p := .t 0) rfl (fun _ _ h => by cases h)) ?_
    refine .gh (Gh.frz (p := .t 1) rfl (fun _ _ h => by cases h)) ?_
    refine .gh (Gh.keep [0, 1, 5] rfl) ?_
    refine .region ?_
    refine mvd ?_
    refine ad ((t + 1 : Nat) : Int) ?_ ?_
    · omega
    refine asd ?_
    refine .nil ?_
    refine AL.gh (Gh.keep [0, 1, 5] rfl) ?_
    exact ih (x / 2, y / 2, t + 1) ⟨by dsimp only; omega, by dsimp only; omega, by dsimp only; omega, two_up h4 hx2, two_up h5 hy2⟩ (by dsimp only; omega)
  rintro _ _ ⟨rfl, x0, y0, t, h1, h2, h3, h4, h5, h6, rfl⟩
  have hG : Nat.gcd x0 y0 * 2 ^ t = Nat.gcd (val a) (val b) := by rw [← h4, ← h5, Nat.gcd_mul_right]
  rw [← hG] at hgl ⊢
  have htl : 32 * M ≤ 3200000 := by omega
  clear h4 h5 hG
  refine .mid (fun e H' => H' = [] ∧ ∃ x y, x < 4294967296 ^ M ∧ y < 4294967296 ^ M ∧ x + y = Nat.gcd x0 y0 ∧ e = [(0, .d (.sl (L (digs x)))), (1, .d (.sl (L (digs y)))), (5, .d (.i .i64 (t : Int)))]) ?_ ?_
  · refine .block ?_
    refine .loop ?_
    refine AL.ind (σ := Nat × Nat) (m := fun s => s.1 + s.2) (e := fun s => [(0, .d (.sl (L (digs s.1)))), (1, .d (.sl (L (digs s.2)))), (5, .d (.i .i64 (t : Int)))]) (h := fun _ => [])
      (I := fun s => s.1 < 4294967296 ^ M ∧ s.2 < 4294967296 ^ M ∧ Nat.gcd s.1 s.2 = Nat.gcd x0 y0 ∧ (s.1 = 0 ∨ s.2 = 0 ∨ s.1 % 2 = 1 ∨ s.2 % 2 = 1)) ?_ (x0, y0) ⟨h1, h2, rfl, h6⟩
    rintro ⟨x, y⟩ ⟨g1, g2, g3, g4⟩ ih
    dsimp only at g1 g2 g3 g4 ih ⊢
    refine .mid (fun e H' => H' = [] ∧ 0 < x ∧ 0 < y ∧ e = [(0, .d (.sl (L (digs x)))), (1, .d (.sl (L (digs y)))), (5, .d (.i .i64 (t : Int)))]) ?_ ?_
    · refine .seq ?_
      refine .region ?_
      refine mvd ?_
      refine ln ?_ (L_sz _) l32
      refine bi ?_
      refine mvd ?_
      by_cases hx : x = 0
      · rw [hx, decide_eq_false (show ¬ (0 : Int) < ((L (digs 0)).length : Nat) by rw [digs_zero]; decide)]
        refine gf ?_
        refine gf ?_
        refine gf ?_
        refine pkd ?_
        refine rn ?_
        refine cndf ?_
        refine .gh (Gh.keep [0, 1, 5] rfl) ?_
        refine .exit ?_
        subst hx
        exact ⟨rfl, 0, y, g1, g2, by rw [gcd_end (.inl rfl), g3], rfl⟩
      rw [decide_eq_true (pos_ln (show 0 < x by omega))]
      refine mvd ?_
      refine ln ?_ (L_sz _) l32
      refine bi ?_
      by_cases hy : y = 0
      · rw [hy, decide_eq_false (show ¬ (0 : Int) < ((L (digs 0)).length : Nat) by rw [digs_zero]; decide)]
        refine pkd ?_
        refine rn ?_
        refine cndf ?_
        refine .gh (Gh.keep [0, 1, 5] rfl) ?_
        refine .exit ?_
        subst hy
        exact ⟨rfl, x, 0, g1, g2, by rw [gcd_end (.inr rfl), g3], rfl⟩
      rw [decide_eq_true (pos_ln (show 0 < y by omega))]
      refine pkd ?_
      refine rn ?_
      refine cndt ?_
      refine .gh (Gh.keep [0, 1, 5] rfl) ?_
      refine .skip ?_
      exact ⟨rfl, by omega, by omega, rfl⟩
    rintro _ _ ⟨rfl, hx, hy, rfl⟩
    refine .block ?_
    refine .block ?_
    refine .seq ?_
    refine .region ?_
    refine mvd ?_
    refine ix 0 ?_ rfl (L_at (digs_head hx)) rfl s32
    refine ldp ?_ a32
    refine bie (.i .u32 ((x % 4294967296 % 2 : Nat) : Int)) ?_ ?_
    · exact ⟨trivial, by rw [u32_and1 _ (Nat.mod_lt _ (by decide))]⟩
    refine bi ?_
    refine asd ?_
    refine rn ?_
    rw [par32]
    by_cases hx2 : x % 2 = 0
    · rw [decide_eq_true hx2]
      have f1 := half_fn (a := digs x) (digs_ok x) (Nat.le_trans (dl g1) (by decide))
      rw [val_digs] at f1
      refine cndt ?_
      refine .gh (Gh.keep [0, 1, 5] rfl) ?_
      refine .region ?_
      refine mvd ?_
      refine cl (xs := [.sl (L (digs x))]) ?_ f1 Try.call140
      refine aso ?_
      refine RL.gh (Gh.frz (p := .t 0) rfl (fun _ _ h => by cases h)) ?_
      refine .nil ?_
      refine AL.gh (Gh.keep [0, 1, 5] rfl) ?_
      exact ih (x / 2, y) ⟨by dsimp only; omega, g2, by dsimp only; rw [← g3]; exact gcd_halfL hx2 (by omega), .inr (.inr (.inr (by dsimp only; omega)))⟩ (by dsimp only; omega)
    rw [decide_eq_false hx2]
    refine cndf ?_
    refine .gh (Gh.keep [0, 1, 5] rfl) ?_
    refine .seq ?_
    refine .region ?_
    refine mvd ?_
    refine ix 0 ?_ rfl (L_at (digs_head hy)) rfl s32
    refine ldp ?_ a32
    refine bie (.i .u32 ((y % 4294967296 % 2 : Nat) : Int)) ?_ ?_
    · exact ⟨trivial, by rw [u32_and1 _ (Nat.mod_lt _ (by decide))]⟩
    refine bi ?_
    refine asd ?_
    refine rn ?_
    rw [par32]
    by_cases hy2 : y % 2 = 0
    · rw [decide_eq_true hy2]
      have f1 := half_fn (a := digs y) (digs_ok y) (Nat.le_trans (dl g2) (by decide))
      rw [val_digs] at f1
      refine cndt ?_
      refine .gh (Gh.keep [0, 1, 5] rfl) ?_
      refine .region ?_
      refine mvd ?_
      refine cl (xs := [.sl (L (digs y))]) ?_ f1 Try.call140
      refine aso ?_
      refine RL.gh (Gh.frz (p := .t 1) rfl (fun _ _ h => by cases h)) ?_
      refine .nil ?_
      refine AL.gh (Gh.keep [0, 1, 5] rfl) ?_
      exact ih (x, y / 2) ⟨g1, by dsimp only; omega, by dsimp only; rw [← g3]; exact gcd_halfR (by omega) hy2, .inr (.inr (.inl (by dsimp only; omega)))⟩ (by dsimp only; omega)
    rw [decide_eq_false hy2]
    have fc := refCompare_fn (a := digs x) (b := digs y) (digs_ok x) (digs_ok y) (Nat.le_trans (dl g1) (by decide)) (Nat.le_trans (dl g2) (by decide))
    rw [val_digs, val_digs] at fc
    refine cndf ?_
    refine .gh (Gh.keep [0, 1, 5] rfl) ?_
    refine .seq ?_
    refine .region ?_
    refine mvd ?_
    refine mvd ?_
    refine cl (xs := [.sl (L (digs x)), .sl (L (digs y))]) ?_ fc Try.call81
    refine bi ?_
    refine asd ?_
    refine rn ?_
    by_cases hle : y ≤ x
    · rw [decide_eq_true (cmp_ge.2 hle)]
      have fm := refMinus_fn (a := digs x) (b := digs y) (digs_ok x) (digs_ok y) (Nat.le_trans (dl g1) (by decide)) (Nat.le_trans (dl g2) (by decide))
      rw [val_digs, val_digs, minN_of hle] at fm
      refine cndt ?_
      refine .gh (Gh.keep [0, 1, 5] rfl) ?_
      refine .region ?_
      refine mvd ?_
      refine mvd ?_
      refine cl (xs := [.sl (L (digs x)), .sl (L (digs y))]) ?_ fm Try.call141
      refine mvt ?_
      refine ex ?_
      refine ex ?_
      refine asd ?_
      refine .nil ?_
      refine AL.gh (Gh.keep [0, 1, 5] rfl) ?_
      exact ih (x - y, y) ⟨by dsimp only; omega, g2, by dsimp only; rw [← g3]; exact gcd_subL hle, .inr (.inr (.inr (by dsimp only; omega)))⟩ (by dsimp only; omega)
    · rw [decide_eq_false (fun h => hle (cmp_ge.1 h))]
      have fm := refMinus_fn (a := digs y) (b := digs x) (digs_ok y) (digs_ok x) (Nat.le_trans (dl g2) (by decide)) (Nat.le_trans (dl g1) (by decide))
      rw [val_digs, val_digs, minN_of (show x ≤ y by omega)] at fm
      refine cndf ?_
      refine .gh (Gh.keep [0, 1, 5] rfl) ?_
      refine .region ?_
      refine mvd ?_
      refine mvd ?_
      refine cl (xs := [.sl (L (digs y)), .sl (L (digs x))]) ?_ fm Try.call141
      refine mvt ?_
      refine ex ?_
      refine ex ?_
      refine asd ?_
      refine .nil ?_
      refine AL.gh (Gh.keep [0, 1, 5] rfl) ?_
      exact ih (x, y - x) ⟨g1, by dsimp only; omega, by dsimp only; rw [← g3]; exact gcd_subR (by omega), .inr (.inr (.inl (by dsimp only; omega)))⟩ (by dsimp only; omega)
  rintro _ _ ⟨rfl, x, y, k1, k2, k3, rfl⟩
  have fa := Add_fn (a := digs x) (b := digs y) (digs_ok x) (digs_ok y) (Nat.le_trans (dl k1) (by decide)) (Nat.le_trans (dl k2) (by decide))
  rw [val_digs, val_digs, k3] at fa
  refine .seq ?_
  refine .region ?_
  refine mvd ?_
  refine mvd ?_
  refine cl (xs := [.sl (L (digs x)), .sl (L (digs y))]) ?_ fa Try.call142
  refine aso ?_
  refine rn ?_
  refine .gh (Gh.frz (p := .t 6) rfl (fun _ _ h => by cases h)) ?_
  refine .gh (Gh.keep [5, 6] rfl) ?_
  generalize Nat.gcd x0 y0 = G at *
  refine .mid (fun e H' => e = [(6, .d (.sl (L (digs (G * 2 ^ t)))))]) ?_ ?_
  · refine .block ?_
    refine .loop ?_
    refine AL.ind (σ := Nat × Nat) (m := fun s => s.1) (e := fun s => [(5, .d (.i .i64 (s.1 : Int))), (6, .d (.sl (L (digs s.2))))]) (h := fun _ => [])
      (I := fun s => s.1 ≤ 3200000 ∧ s.2 * 2 ^ s.1 = G * 2 ^ t) ?_ (t, G) ⟨by dsimp only; omega, rfl⟩
    rintro ⟨s, g⟩ ⟨g1, g2⟩ ih
    dsimp only at g1 g2 ih ⊢
    have hgv : g < 4294967296 ^ M := by
      have : g ≤ g * 2 ^ s := Nat.le_mul_of_pos_right _ (Nat.pow_pos (by decide))
      omega
    refine .seq ?_
    refine .seq ?_
    refine .region ?_
    refine mvd ?_
    refine bi ?_
    refine rn ?_
    cases s with
    | zero =>
      refine cndf ?_
      refine .gh (Gh.keep [6] rfl) ?_
      refine .exit ?_
      rw [← g2, Nat.pow_zero, Nat.mul_one]; rfl
    | succ s =>
      have ft := twice_fn (a := digs g) (c0 := 0) (digs_ok g) (Nat.le_trans (dl hgv) (by decide)) (by decide)
      rw [val_digs, Nat.add_zero] at ft
      rw [decide_eq_true (show (0 : Int) < ((s + 1 : Nat) : Int) by omega)]
      refine cndt ?_
      refine .skip ?_
      show AW _ _ _ _ _ _
      refine .seq ?_
      refine .block ?_
      refine .region ?_
      refine mvd ?_
      refine cl (xs := [.sl (L (digs g)), .i .u32 ((0 : Nat) : Int)]) ?_ ft Try.call143
      refine aso ?_
      refine RL.gh (Gh.frz (p := .t 6) rfl (fun _ _ h => by cases h)) ?_
      refine .nil ?_
      show AW _ _ _ _ _ _
      refine .region ?_
      refine mvd ?_
      refine su (s : Int) ?_ ?_
      · omega
      refine asd ?_
      refine rn ?_
      refine .gh (Gh.keep [5, 6] rfl) ?_
      exact ih (s, 2 * g) ⟨by dsimp only; omega, by dsimp only; rw [← g2, Nat.pow_succ]; grind⟩ (by dsimp only; omega)
  rintro _ _ rfl
  refine .seq ?_
  refine .region ?_
  refine mvd ?_
  refine asd ?_
  refine rn ?_
  refine .ret ?_
  exact ⟨rfl, rfl⟩
end Go.FL
/-
  glyphref01.Gcd.
-/
namespace Go.FL
open Go Go.Proofs

theorem refGcd_fn {M : Nat} {ls : List (List Nat)} (h : ∀ a ∈ ls, Ok a) (hM : ∀ a ∈ ls, a.length ≤ M) (hl : ls.length ≤ 1000) (hM2 : M ≤ 100000) : Fn Try.prog 82 [.sl (LL ls)] (.d (.sl (L (digs (gcdF ls))))) := by
  have hv : ∀ a ∈ ls, val a < 4294967296 ^ M := fun a ha => Nat.lt_of_lt_of_le (val_lt (h a ha)) (Nat.pow_le_pow_right (by decide) (hM a ha))
  have hP : 0 < 4294967296 ^ M := Nat.pow_pos (by decide)
  refine Fn.of (rs := [.tmp 2]) (nt := 18) Try.func82 rfl rfl rfl (by simp) rfl ?_
  refine .seq ?_
  refine .region ?_
  refine asn ?_
  refine rn ?_
  refine .seq ?_
  refine .region ?_
  refine asn ?_
  refine rn ?_
  refine .mid (fun e H' => e = [(3, .d (.sl (L (digs (gcdF ls)))))]) ?_ ?_
  · refine .seq ?_
    refine .region ?_
    refine asd ?_
    refine rn ?_
    refine .block ?_
    refine .gh (Gh.nlD (t := 3) rfl) ?_
    refine .loop (.gh (Gh.keep [0, 3, 4] rfl) ?_)
    refine AL.cast (env' := [(0, .d (.sl (LL ls))), (3, .d (.sl (L (digs (gcdF (ls.take 0)))))), (4, .d (.i .i64 ((0 : Nat) : Int)))]) (by rw [List.take_zero]; show _ = [(0, AV.d (.sl (LL ls))), (3, AV.d (.sl (L (digs 0)))), _]; rw [digs_zero]; rfl) ?_
    refine AL.ind (σ := Nat) (m := fun i => ls.length - i) (e := fun i => [(0, .d (.sl (LL ls))), (3, .d (.sl (L (digs (gcdF (ls.take i)))))), (4, .d (.i .i64 (i : Int)))]) (h := fun _ => [])
      (I := fun i => i ≤ ls.length ∧ gcdF (ls.take i) < 4294967296 ^ M) ?_ 0 ⟨Nat.zero_le _, by rw [List.take_zero]; exact hP⟩
    rintro i ⟨h1, h2⟩ ih
    refine .seq ?_
    refine .seq ?_
    refine .region ?_
    refine mvd ?_
    refine mvd ?_
    refine ln ?_ (LL_sz _) l2
    refine bi ?_
    refine rn ?_
    by_cases hi : i < ls.length
    · rw [decide_eq_true (show (i:Int) < ((LL ls).length : Nat) by rw [LL_length]; omega)]
      have hy : ls[i]? = some ls[i] := List.getElem?_eq_getElem hi
      have htk : ls.take (i + 1) = ls.take i ++ [ls[i]] := List.take_succ_eq_append_getElem hi
      generalize ls[i] = y at hy htk
      have hyo := h y (List.mem_of_getElem? hy)
      have hyl := hM y (List.mem_of_getElem? hy)
      have hyv := hv y (List.mem_of_getElem? hy)
      have hst : gcdF (ls.take (i + 1)) = Nat.gcd (gcdF (ls.take i)) (val y) := by rw [htk, gcdF_snoc]
      generalize gcdF (ls.take i) = g at *
      have fg := ref_gcd_fn (M := M) (a := digs g) (b := y) (digs_ok g) hyo (digs_len h2) hyl hM2
      rw [val_digs, ← hst] at fg
      refine cndt ?_
      refine .skip ?_
      show AW _ _ _ _ _ _
      refine .seq ?_
      refine .block ?_
      refine .region ?_
      refine mvd ?_
      refine mvd ?_
      refine mvd ?_
      refine ix i ?_ rfl (LL_at hy) rfl s2
      refine ldp ?_ a2
      refine cl (xs := [.sl (L (digs g)), .sl (L y)]) ?_ fg Try.call117
      refine asd ?_
      refine .nil ?_
      show AW _ _ _ _ _ _
      refine .region ?_
      refine mvd ?_
      refine ad ((i + 1 : Nat) : Int) ?_ ?_
      · omega
      refine asd ?_
      refine rn ?_
      refine .gh (Gh.keep [0, 3, 4] rfl) ?_
      exact ih (i + 1) ⟨by omega, by rw [hst]; exact gcd_lt h2 hyv⟩ (by omega)
    · rw [decide_eq_false (show ¬ (i:Int) < ((LL ls).length : Nat) by rw [LL_length]; omega)]
      refine cndf ?_
      refine .gh (Gh.keep [3] rfl) ?_
      refine .exit ?_
      have e1 : ls.take i = ls := List.take_of_length_le (by omega)
      show _ = _
      rw [e1]; rfl
  rintro _ _ rfl
  refine .seq ?_
  refine .region ?_
  refine mvd ?_
  refine asd ?_
  refine rn ?_
  refine .ret ?_
  exact ⟨rfl, rfl⟩
end Go.FL
/-
  Types of the layer rat: numbers as structs.
-/
namespace Go.FL
open Go Go.Proofs

/-- An api.Rat, a rat.number, a rat.size. -/
abbrev Rv (b : Bool) (n d : List Nat) : DV := .ag [.b b, .sl (L n), .sl (L d)]
theorem fR0 : fieldT Try.prog 35 0 = some (0, 1) := by kernel_rfl
theorem fR1 : fieldT Try.prog 35 1 = some (1, 1) := by kernel_rfl
theorem fR2 : fieldT Try.prog 35 2 = some (2, 1) := by kernel_rfl
theorem aR : aggT Try.prog 35 = some true := by kernel_rfl
theorem sR : szOf Try.prog 35 = 3 := by kernel_rfl
theorem pR : structT Try.prog 35 = some [(0, 1), (1, 1), (2, 1)] := by kernel_rfl
theorem iR : (Try.prog.info? 35).bind (·.zero) = some (.agg #[.bool false, .slice none 0 0, .slice none 0 0]) := by kernel_rfl
theorem zero_of {P : Program} {t : TypeId} {z : Value} (h : (P.info? t).bind (·.zero) = some z) (w : World) : (zeroValue t).run P w = .ok z w := by
  cases hi : P.info? t with
  | none => rw [hi] at h; cases h
  | some i =>
    rw [hi] at h
    simp only [Option.bind_some] at h
    simp [zeroValue, typeInfo, hi, h]
theorem rR (w : World) (I : Nat → Prop) : RepAll w I [.b false, .sl [], .sl []] (Value.agg #[.bool false, .slice none 0 0, .slice none 0 0]).cells.toList := .cons (.b _) (.cons (.sl0 _ _) (.cons (.sl0 _ _) .nil))
theorem aB : aggT Try.prog 4 = some false := by kernel_rfl
theorem aS : aggT Try.prog 33 = some false := by kernel_rfl
end Go.FL
/-
  rat: one, of, cross, lowest, Make.
-/
namespace Go.FL
open Go Go.Proofs

theorem one_fn : Fn Try.prog 98 [] (.own 125 (L [1])) := by
  refine Fn.of (rs := [.tmp 0]) (nt := 2) Try.func98 rfl rfl rfl (by simp) rfl ?_
  refine .seq ?_
  refine .region ?_
  refine asn ?_
  refine rn ?_
  refine .seq ?_
  refine .region ?_
  refine bsl ?_ ?_ e32
  · simp [DV.flat, DV.cells, DV.leaf]
  refine aso ?_
  refine rn ?_
  refine .ret ?_
  exact ⟨rfl, rfl⟩

end Go.FL
/-
  rat, glyphref02: Right; slices.Equal, IndexFunc, ContainsFunc; right.
-/
namespace Go.FL
open Go Go.Proofs

theorem refOne_fn : Fn Try.prog 83 [] (.own 125 (L [1])) := by
  refine Fn.of (rs := [.tmp 0]) (nt := 2) Try.func83 rfl rfl rfl (by simp) rfl ?_
  refine .seq ?_
  refine .region ?_
  refine asn ?_
  refine rn ?_
  refine .seq ?_
  refine .region ?_
  refine bsl ?_ ?_ e32
  · simp [DV.flat, DV.cells, DV.leaf]
  refine aso ?_
  refine rn ?_
  refine .ret ?_
  exact ⟨rfl, rfl⟩

theorem Equal_fn (a b : List Nat) (hla : a.length ≤ 1048576) (hoa : Ok a) (hob : Ok b) : Fn Try.prog 113 [.sl (L a), .sl (L b)] (.d (.b (decide (a = b)))) := by
  refine Fn.of (rs := [.tmp 4]) (nt := 26) Try.func113 rfl rfl rfl (by simp) rfl ?_
  refine .seq ?_
  refine .region ?_
  refine asd ?_
  refine rn ?_
  refine .seq ?_
  refine .seq ?_
  refine .region ?_
  refine mvd ?_
  refine ln ?_ (L_sz _) l32
  refine mvd ?_
  refine ln ?_ (L_sz _) l32
  refine bi ?_
  refine rn ?_
  by_cases hlen : a.length ≠ b.length
  · rw [decide_eq_false (show ¬ (((L a).length : Nat) : Int) = ((L b).length : Nat) by rw [L_length, L_length]; omega)]
    refine cndt ?_
    refine .seq ?_
    refine .region ?_
    refine asd ?_
    refine rn ?_
    refine .ret ?_
    exact ⟨by rw [decide_eq_false (fun h => hlen (by rw [h]))]; rfl, rfl⟩
  rw [decide_eq_true (show (((L a).length : Nat) : Int) = ((L b).length : Nat) by rw [L_length, L_length]; omega)]
  refine cndf ?_
  refine .skip ?_
  show AW _ _ _ _ _ _
  refine .seq ?_
  refine .seq ?_
  refine .region ?_
  refine mvd ?_
  refine ln ?_ (L_sz _) l32
  refine mvd ?_
  refine rn ?_
  refine .block ?_
  refine .loop (.gh (Gh.keep [0, 1, 11, 12, 13] rfl) ?_)
  refine AL.ind (σ := Nat) (m := fun i => a.length - i) (e := fun i => [(0, .d (.sl (L a))), (1, .d (.sl (L b))), (11, .d (.sl (L a))), (12, .d (.i .i64 ((L a).length : Nat))), (13, .d (.i .i64 (i : Int)))]) (h := fun _ => [])
    (I := fun i => i ≤ a.length ∧ a.take i = b.take i) ?_ 0 ⟨Nat.zero_le _, rfl⟩
  rintro i ⟨h1, h2⟩ ih
  refine .seq ?_
  refine .region ?_
  refine bi ?_
  refine rn ?_
  refine .seq ?_
  by_cases hi : i < a.length
  · rw [decide_eq_true (show (i : Int) < ((L a).length : Nat) by rw [L_length]; omega)]
    have hx : a[i]? = some a[i] := List.getElem?_eq_getElem hi
    have hy : b[i]? = some b[i] := List.getElem?_eq_getElem (by omega)
    have hdx : a.take (i + 1) = a.take i ++ [a[i]] := List.take_succ_eq_append_getElem hi
    have hdy : b.take (i + 1) = b.take i ++ [b[i]] := List.take_succ_eq_append_getElem (by omega)
    generalize a[i] = x at hx hdx
    generalize b[i] = y at hy hdy
    refine cndt ?_
    refine .skip ?_
    show AW _ _ _ _ _ _
    refine .seq ?_
    refine .block ?_
    refine .seq ?_
    refine .region ?_
    refine mvd ?_
    refine asd ?_
    refine rn ?_
    refine .seq ?_
    refine .drawn 9 mixed (by kernel_rfl) ?_
    refine dv vmvd ?_
    refine dv vmvd ?_
    refine dv (vix i rfl (L_at hx) rfl s32) ?_
    refine dv (vldp a32) ?_
    refine dv vmvd ?_
    refine dv vmvd ?_
    refine dv (vix i rfl (L_at hy) rfl s32) ?_
    refine dv (vldp a32) ?_
    refine dv vbi ?_
    refine dz ?_
    refine rn ?_
    by_cases hxy : x ≠ y
    · rw [decide_eq_false (show ¬ (x : Int) = (y : Int) by omega)]
      refine cndt ?_
      refine .seq ?_
      refine .region ?_
      refine asd ?_
      refine rn ?_
      refine .ret ?_
      exact ⟨by rw [decide_eq_false (fun h => hxy (by rw [h] at hx; rw [hx] at hy; exact Option.some.inj hy))]; rfl, rfl⟩
    rw [decide_eq_true (show (x : Int) = (y : Int) by omega)]
    refine cndf ?_
    refine .skip ?_
    show AW _ _ _ _ _ _
    refine .region ?_
    refine ad ((i + 1 : Nat) : Int) ?_ ?_
    · omega
    refine mvd ?_
    refine .nil ?_
    refine AL.gh (Gh.keep [0, 1, 11, 12, 13] rfl) ?_
    exact ih (i + 1) ⟨by omega, by rw [hdx, hdy, h2]; congr 2; omega⟩ (by omega)
  rw [decide_eq_false (show ¬ (i : Int) < ((L a).length : Nat) by rw [L_length]; omega)]
  refine cndf ?_
  refine .exit ?_
  show AW _ _ _ _ _ _
  refine .seq ?_
  refine .region ?_
  refine asd ?_
  refine rn ?_
  refine .ret ?_
  rw [List.take_of_length_le (by omega), List.take_of_length_le (by omega)] at h2
  exact ⟨by rw [decide_eq_true h2]; rfl, rfl⟩

/-- A number in lowest terms, and not too great. -/
def RightP (b : Bool) (n d : List Nat) : Prop := digs (val n) = n ∧ digs (val d) = d ∧ n.length ≤ 32 ∧ d.length ≤ 32 ∧ d ≠ [] ∧ (n = [] → b = false) ∧ Nat.gcd (val n) (val d) = 1
instance (b : Bool) (n d : List Nat) : Decidable (RightP b n d) := by unfold RightP; infer_instance
def rightL (b : Bool) (n d : List Nat) : Bool := decide (RightP b n d)
theorem right_f {b : Bool} {n d : List Nat} (h : ¬ RightP b n d) : rightL b n d = false := decide_eq_false h
theorem digs_one_iff {g : Nat} : digs g = [1] ↔ g = 1 := by
  have one : digs 1 = [1] := one_limb (n := 1) (by decide) (by decide)
  constructor
  · intro h
    have := val_digs g
    rw [h] at this
    simpa [val] using this.symm
  · rintro rfl; exact one
theorem ne_nil_pos {l : List Nat} : l ≠ [] ↔ 0 < l.length := by
  cases l <;> simp

theorem RRight_fn {b : Bool} {n d : List Nat} (hn : Ok n) (hd : Ok d) (hln : n.length ≤ 35184372087808) (hld : d.length ≤ 35184372087808) : Fn Try.prog 77 [Rv b n d] (.d (.b (rightL b n d))) := by
  refine Fn.of (rs := [.tmp 2]) (nt := 50) Try.func77 rfl rfl rfl (by simp) rfl ?_
  refine .seq ?_
  refine .region ?_
  refine vk vbx ?_
  refine asd ?_
  refine rn ?_
  refine .seq ?_
  refine .seq ?_
  refine .region ?_
  refine vk (vfa fR1) ?_
  refine ldp ?_ aS
  refine cl (xs := [.sl (L n)]) ?_ (Right_fn hn hln) Try.call112
  refine nt_ ?_
  by_cases h1 : ¬ digs (val n) = n
  · rw [decide_eq_false h1]
    refine mvd ?_
    refine gf ?_
    refine gf ?_
    refine gf ?_
    refine gf ?_
    refine pkd ?_
    refine mvd ?_
    refine gf ?_
    refine gf ?_
    refine gf ?_
    refine gf ?_
    refine pkd ?_
    refine mvd ?_
    refine gf ?_
    refine gf ?_
    refine gf ?_
    refine gf ?_
    refine pkd ?_
    refine rn ?_
    refine .gh (Gh.keep [1, 24] rfl) ?_
    refine cndt ?_
    refine .seq ?_
    refine .region ?_
    refine asd ?_
    refine rn ?_
    refine .ret ?_
    exact ⟨by rw [right_f (fun h => h1 h.1)]; rfl, rfl⟩
  rw [Decidable.not_not] at h1
  rw [decide_eq_true h1]
  refine mvd ?_
  refine vk (vfa fR2) ?_
  refine ldp ?_ aS
  refine cl (xs := [.sl (L d)]) ?_ (Right_fn hd hld) Try.call112
  refine nt_ ?_
  by_cases h2 : ¬ digs (val d) = d
  · rw [decide_eq_false h2]
    refine pkd ?_
    refine mvd ?_
    refine gf ?_
    refine gf ?_
    refine gf ?_
    refine gf ?_
    refine pkd ?_
    refine mvd ?_
    refine gf ?_
    refine gf ?_
    refine gf ?_
    refine gf ?_
    refine pkd ?_
    refine rn ?_
    refine .gh (Gh.keep [1, 24] rfl) ?_
    refine cndt ?_
    refine .seq ?_
    refine .region ?_
    refine asd ?_
    refine rn ?_
    refine .ret ?_
    exact ⟨by rw [right_f (fun h => h2 h.2.1)]; rfl, rfl⟩
  rw [Decidable.not_not] at h2
  rw [decide_eq_true h2]
  refine pkd ?_
  refine mvd ?_
  refine vk (vfa fR1) ?_
  refine ldp ?_ aS
  refine ln ?_ (L_sz _) l32
  refine bi ?_
  by_cases h3 : 32 < n.length
  · rw [decide_eq_true (show (32 : Int) < ((L n).length : Nat) by rw [L_length]; omega)]
    refine pkd ?_
    refine mvd ?_
    refine gf ?_
    refine gf ?_
    refine gf ?_
    refine gf ?_
    refine pkd ?_
    refine rn ?_
    refine .gh (Gh.keep [1, 24] rfl) ?_
    refine cndt ?_
    refine .seq ?_
    refine .region ?_
    refine asd ?_
    refine rn ?_
    refine .ret ?_
    exact ⟨by rw [right_f (fun h => by have := h.2.2.1; omega)]; rfl, rfl⟩
  rw [decide_eq_false (show ¬ (32 : Int) < ((L n).length : Nat) by rw [L_length]; omega)]
  refine pkd ?_
  refine mvd ?_
  refine vk (vfa fR2) ?_
  refine ldp ?_ aS
  refine ln ?_ (L_sz _) l32
  refine bi ?_
  by_cases h4 : 32 < d.length
  · rw [decide_eq_true (show (32 : Int) < ((L d).length : Nat) by rw [L_length]; omega)]
    refine pkd ?_
    refine rn ?_
    refine .gh (Gh.keep [1, 24] rfl) ?_
    refine cndt ?_
    refine .seq ?_
    refine .region ?_
    refine asd ?_
    refine rn ?_
    refine .ret ?_
    exact ⟨by rw [right_f (fun h => by have := h.2.2.2.1; omega)]; rfl, rfl⟩
  rw [decide_eq_false (show ¬ (32 : Int) < ((L d).length : Nat) by rw [L_length]; omega)]
  have g1 := Gcd_fn (M := 32) (ls := [n, d]) (by simp [hn, hd]) (by simp; omega) (by simp) (by decide)
  rw [show gcdF [n, d] = Nat.gcd (val n) (val d) by show Nat.gcd (Nat.gcd 0 (val n)) (val d) = _; rw [Nat.gcd_zero_left]] at g1
  have lg : (digs (Nat.gcd (val n) (val d))).length ≤ 32 := digs_len (gcd_lt (Nat.lt_of_lt_of_le (val_lt hn) (Nat.pow_le_pow_right (by decide) (by omega))) (Nat.lt_of_lt_of_le (val_lt hd) (Nat.pow_le_pow_right (by decide) (by omega))))
  have q1 := Equal_fn (digs (Nat.gcd (val n) (val d))) [1] (by omega) (digs_ok _) (by simp [Ok])
  rw [decide_eq_decide.2 digs_one_iff] at q1
  refine pkd ?_
  refine rn ?_
  refine .gh (Gh.keep [1, 24] rfl) ?_
  refine cndf ?_
  refine .skip ?_
  show AW _ _ _ _ _ _
  refine .seq ?_
  refine .region ?_
  refine vk (vfa fR2) ?_
  refine ldp ?_ aS
  refine ln ?_ (L_sz _) l32
  refine bi ?_
  by_cases h5 : 0 < d.length
  · rw [decide_eq_true (show (0 : Int) < ((L d).length : Nat) by rw [L_length]; omega)]
    refine mvd ?_
    refine vk (vfa fR1) ?_
    refine ldp ?_ aS
    refine ln ?_ (L_sz _) l32
    refine bi ?_
    by_cases h6 : 0 < n.length
    · rw [decide_eq_true (show (0 : Int) < ((L n).length : Nat) by rw [L_length]; omega)]
      refine mvd ?_
      refine gf ?_
      refine gf ?_
      refine gf ?_
      refine pkd ?_
      refine pkd ?_
      refine mvd ?_
      refine vk (vfa fR1) ?_
      refine ldp ?_ aS
      refine vk (vfa fR2) ?_
      refine ldp ?_ aS
      refine bsl ?_ ?_ e2
      · simp [DV.flat, DV.cells, DV.leaf]
      refine fz (p := .t 45) ?_
      refine cl (xs := [.sl (LL [n, d])]) ?_ g1 Try.call114
      refine cl (xs := []) ?_ one_fn Try.call98
      refine fz (p := .t 47) ?_
      refine cl (xs := [.sl (L (digs (Nat.gcd (val n) (val d)))), .sl (L [1])]) ?_ q1 Try.call113
      refine pkd ?_
      refine asd ?_
      refine rn ?_
      refine .ret ?_
      exact ⟨by rw [show rightL b n d = decide (Nat.gcd (val n) (val d) = 1) from decide_eq_decide.2 ⟨fun h => h.2.2.2.2.2.2, fun h => ⟨h1, h2, by omega, by omega, ne_nil_pos.2 h5, fun h0 => by rw [h0] at h6; simp at h6, h⟩⟩]; rfl, rfl⟩
    rw [decide_eq_false (show ¬ (0 : Int) < ((L n).length : Nat) by rw [L_length]; omega)]
    refine mvd ?_
    refine vk (vfa fR0) ?_
    refine ldp ?_ aB
    refine nt_ ?_
    by_cases h7 : b = false
    · subst h7
      refine pkd ?_
      refine pkd ?_
      refine mvd ?_
      refine vk (vfa fR1) ?_
      refine ldp ?_ aS
      refine vk (vfa fR2) ?_
      refine ldp ?_ aS
      refine bsl ?_ ?_ e2
      · simp [DV.flat, DV.cells, DV.leaf]
      refine fz (p := .t 45) ?_
      refine cl (xs := [.sl (LL [n, d])]) ?_ g1 Try.call114
      refine cl (xs := []) ?_ one_fn Try.call98
      refine fz (p := .t 47) ?_
      refine cl (xs := [.sl (L (digs (Nat.gcd (val n) (val d)))), .sl (L [1])]) ?_ q1 Try.call113
      refine pkd ?_
      refine asd ?_
      refine rn ?_
      refine .ret ?_
      exact ⟨by rw [show rightL false n d = decide (Nat.gcd (val n) (val d) = 1) from decide_eq_decide.2 ⟨fun h => h.2.2.2.2.2.2, fun h => ⟨h1, h2, by omega, by omega, ne_nil_pos.2 h5, fun _ => rfl, h⟩⟩]; rfl, rfl⟩
    rw [Bool.not_eq_false] at h7; subst h7
    refine pkd ?_
    refine pkd ?_
    refine mvd ?_
    refine gf ?_
    refine gf ?_
    refine gf ?_
    refine gf ?_
    refine gf ?_
    refine gf ?_
    refine gf ?_
    refine gf ?_
    refine pkd ?_
    refine asd ?_
    refine rn ?_
    refine .ret ?_
    exact ⟨by rw [right_f (fun h => by have := h.2.2.2.2.2.1 (List.length_eq_zero_iff.1 (by omega)); cases this)]; rfl, rfl⟩
  rw [decide_eq_false (show ¬ (0 : Int) < ((L d).length : Nat) by rw [L_length]; omega)]
  refine mvd ?_
  refine gf ?_
  refine gf ?_
  refine gf ?_
  refine gf ?_
  refine gfu ?_
  refine gfn ?_
  refine gfn ?_
  refine gfn ?_
  refine gf ?_
  refine pkd ?_
  refine mvd ?_
  refine gf ?_
  refine gf ?_
  refine gf ?_
  refine gf ?_
  refine gf ?_
  refine gf ?_
  refine gf ?_
  refine gf ?_
  refine pkd ?_
  refine asd ?_
  refine rn ?_
  refine .ret ?_
  exact ⟨by rw [right_f (fun h => h5 (ne_nil_pos.1 h.2.2.2.2.1))]; rfl, rfl⟩

theorem cmp_one {g : Nat} : (cmpN g 1 = 0) ↔ g = 1 := by
  unfold cmpN
  by_cases h : g < 1
  · rw [if_pos h]; omega
  · rw [if_neg h]; split <;> omega

theorem refRR_fn {b : Bool} {n d : List Nat} (hn : Ok n) (hd : Ok d) (hln : n.length ≤ 35184372087808) (hld : d.length ≤ 35184372087808) : Fn Try.prog 38 [Rv b n d] (.d (.b (rightL b n d))) := by
  refine Fn.of (rs := [.tmp 2]) (nt := 50) Try.func38 rfl rfl rfl (by simp) rfl ?_
  refine .seq ?_
  refine .region ?_
  refine vk vbx ?_
  refine asd ?_
  refine rn ?_
  refine .seq ?_
  refine .seq ?_
  refine .region ?_
  refine vk (vfa fR1) ?_
  refine ldp ?_ aS
  refine cl (xs := [.sl (L n)]) ?_ (refRight_fn hn hln) Try.call80
  refine nt_ ?_
  by_cases h1 : ¬ digs (val n) = n
  · rw [decide_eq_false h1]
    refine mvd ?_
    refine gf ?_
    refine gf ?_
    refine gf ?_
    refine gf ?_
    refine pkd ?_
    refine mvd ?_
    refine gf ?_
    refine gf ?_
    refine gf ?_
    refine gf ?_
    refine pkd ?_
    refine mvd ?_
    refine gf ?_
    refine gf ?_
    refine gf ?_
    refine gf ?_
    refine pkd ?_
    refine mvd ?_
    refine gf ?_
    refine gf ?_
    refine gf ?_
    refine gf ?_
    refine pkd ?_
    refine mvd ?_
    refine gf ?_
    refine gf ?_
    refine gf ?_
    refine gf ?_
    refine gfu ?_
    refine gfn ?_
    refine gfn ?_
    refine gf ?_
    refine pkd ?_
    refine rn ?_
    refine .gh (Gh.keep [1, 40] rfl) ?_
    refine cndt ?_
    refine .seq ?_
    refine .region ?_
    refine asd ?_
    refine rn ?_
    refine .ret ?_
    exact ⟨by rw [right_f (fun h => h1 h.1)]; rfl, rfl⟩
  rw [Decidable.not_not] at h1
  rw [decide_eq_true h1]
  refine mvd ?_
  refine vk (vfa fR2) ?_
  refine ldp ?_ aS
  refine cl (xs := [.sl (L d)]) ?_ (refRight_fn hd hld) Try.call80
  refine nt_ ?_
  by_cases h2 : ¬ digs (val d) = d
  · rw [decide_eq_false h2]
    refine pkd ?_
    refine mvd ?_
    refine gf ?_
    refine gf ?_
    refine gf ?_
    refine gf ?_
    refine pkd ?_
    refine mvd ?_
    refine gf ?_
    refine gf ?_
    refine gf ?_
    refine gf ?_
    refine pkd ?_
    refine mvd ?_
    refine gf ?_
    refine gf ?_
    refine gf ?_
    refine gf ?_
    refine pkd ?_
    refine mvd ?_
    refine gf ?_
    refine gf ?_
    refine gf ?_
    refine gf ?_
    refine gfu ?_
    refine gfn ?_
    refine gfn ?_
    refine gf ?_
    refine pkd ?_
    refine rn ?_
    refine .gh (Gh.keep [1, 40] rfl) ?_
    refine cndt ?_
    refine .seq ?_
    refine .region ?_
    refine asd ?_
    refine rn ?_
    refine .ret ?_
    exact ⟨by rw [right_f (fun h => h2 h.2.1)]; rfl, rfl⟩
  rw [Decidable.not_not] at h2
  rw [decide_eq_true h2]
  refine pkd ?_
  refine mvd ?_
  refine vk (vfa fR2) ?_
  refine ldp ?_ aS
  refine ln ?_ (L_sz _) l32
  refine bi ?_
  by_cases h5 : d.length = 0
  · rw [decide_eq_true (show (((L d).length : Nat) : Int) = 0 by rw [L_length]; omega)]
    refine pkd ?_
    refine mvd ?_
    refine gf ?_
    refine gf ?_
    refine gf ?_
    refine gf ?_
    refine pkd ?_
    refine mvd ?_
    refine gf ?_
    refine gf ?_
    refine gf ?_
    refine gf ?_
    refine pkd ?_
    refine mvd ?_
    refine gf ?_
    refine gf ?_
    refine gf ?_
    refine gf ?_
    refine gfu ?_
    refine gfn ?_
    refine gfn ?_
    refine gf ?_
    refine pkd ?_
    refine rn ?_
    refine .gh (Gh.keep [1, 40] rfl) ?_
    refine cndt ?_
    refine .seq ?_
    refine .region ?_
    refine asd ?_
    refine rn ?_
    refine .ret ?_
    exact ⟨by rw [right_f (fun h => by have := ne_nil_pos.1 h.2.2.2.2.1; omega)]; rfl, rfl⟩
  rw [decide_eq_false (show ¬ (((L d).length : Nat) : Int) = 0 by rw [L_length]; omega)]
  refine pkd ?_
  refine mvd ?_
  refine vk (vfa fR1) ?_
  refine ldp ?_ aS
  refine ln ?_ (L_sz _) l32
  refine bi ?_
  by_cases h3 : 32 < n.length
  · rw [decide_eq_true (show (32 : Int) < ((L n).length : Nat) by rw [L_length]; omega)]
    refine pkd ?_
    refine mvd ?_
    refine gf ?_
    refine gf ?_
    refine gf ?_
    refine gf ?_
    refine pkd ?_
    refine mvd ?_
    refine gf ?_
    refine gf ?_
    refine gf ?_
    refine gf ?_
    refine gfu ?_
    refine gfn ?_
    refine gfn ?_
    refine gf ?_
    refine pkd ?_
    refine rn ?_
    refine .gh (Gh.keep [1, 40] rfl) ?_
    refine cndt ?_
    refine .seq ?_
    refine .region ?_
    refine asd ?_
    refine rn ?_
    refine .ret ?_
    exact ⟨by rw [right_f (fun h => by have := h.2.2.1; omega)]; rfl, rfl⟩
  rw [decide_eq_false (show ¬ (32 : Int) < ((L n).length : Nat) by rw [L_length]; omega)]
  refine pkd ?_
  refine mvd ?_
  refine vk (vfa fR2) ?_
  refine ldp ?_ aS
  refine ln ?_ (L_sz _) l32
  refine bi ?_
  by_cases h4 : 32 < d.length
  · rw [decide_eq_true (show (32 : Int) < ((L d).length : Nat) by rw [L_length]; omega)]
    refine pkd ?_
    refine mvd ?_
    refine gf ?_
    refine gf ?_
    refine gf ?_
    refine gf ?_
    refine gfu ?_
    refine gfn ?_
    refine gfn ?_
    refine gf ?_
    refine pkd ?_
    refine rn ?_
    refine .gh (Gh.keep [1, 40] rfl) ?_
    refine cndt ?_
    refine .seq ?_
    refine .region ?_
    refine asd ?_
    refine rn ?_
    refine .ret ?_
    exact ⟨by rw [right_f (fun h => by have := h.2.2.2.1; omega)]; rfl, rfl⟩
  rw [decide_eq_false (show ¬ (32 : Int) < ((L d).length : Nat) by rw [L_length]; omega)]
  have g1 := refGcd_fn (M := 32) (ls := [n, d]) (by simp [hn, hd]) (by simp; omega) (by simp) (by decide)
  rw [show gcdF [n, d] = Nat.gcd (val n) (val d) by show Nat.gcd (Nat.gcd 0 (val n)) (val d) = _; rw [Nat.gcd_zero_left]] at g1
  have lg : (digs (Nat.gcd (val n) (val d))).length ≤ 32 := digs_len (gcd_lt (Nat.lt_of_lt_of_le (val_lt hn) (Nat.pow_le_pow_right (by decide) (by omega))) (Nat.lt_of_lt_of_le (val_lt hd) (Nat.pow_le_pow_right (by decide) (by omega))))
  have q1 := refCompare_fn (a := digs (Nat.gcd (val n) (val d))) (b := [1]) (digs_ok _) (by simp [Ok]) (by omega) (by simp)
  rw [val_digs, show val [1] = 1 from rfl] at q1
  refine pkd ?_
  refine mvd ?_
  refine vk (vfa fR1) ?_
  refine ldp ?_ aS
  refine ln ?_ (L_sz _) l32
  refine bi ?_
  by_cases h6 : n.length = 0
  · rw [decide_eq_true (show (((L n).length : Nat) : Int) = 0 by rw [L_length]; omega)]
    refine mvd ?_
    refine vk (vfa fR0) ?_
    refine ldp ?_ aB
    by_cases h7 : b = true
    · subst h7
      refine pkd ?_
      refine pkd ?_
      refine rn ?_
      refine .gh (Gh.keep [1, 40] rfl) ?_
      refine cndt ?_
      refine .seq ?_
      refine .region ?_
      refine asd ?_
      refine rn ?_
      refine .ret ?_
      exact ⟨by rw [right_f (fun h => by have := h.2.2.2.2.2.1 (List.length_eq_zero_iff.1 (by omega)); cases this)]; rfl, rfl⟩
    rw [Bool.not_eq_true] at h7; subst h7
    refine pkd ?_
    refine pkd ?_
    refine rn ?_
    refine .gh (Gh.keep [1, 40] rfl) ?_
    refine cndf ?_
    refine .skip ?_
    show AW _ _ _ _ _ _
    refine .seq ?_
    refine .region ?_
    refine vk (vfa fR1) ?_
    refine ldp ?_ aS
    refine vk (vfa fR2) ?_
    refine ldp ?_ aS
    refine bsl ?_ ?_ e2
    · simp [DV.flat, DV.cells, DV.leaf]
    refine fz (p := .t 45) ?_
    refine cl (xs := [.sl (LL [n, d])]) ?_ g1 Try.call82
    refine cl (xs := []) ?_ refOne_fn Try.call83
    refine fz (p := .t 47) ?_
    refine cl (xs := [.sl (L (digs (Nat.gcd (val n) (val d)))), .sl (L [1])]) ?_ q1 Try.call81
    refine bi ?_
    refine asd ?_
    refine rn ?_
    refine .ret ?_
    exact ⟨by rw [show rightL false n d = decide (cmpN (Nat.gcd (val n) (val d)) 1 = 0) from decide_eq_decide.2 ⟨fun h => cmp_one.2 h.2.2.2.2.2.2, fun h => ⟨h1, h2, by omega, by omega, ne_nil_pos.2 (by omega), fun _ => rfl, cmp_one.1 h⟩⟩]; rfl, rfl⟩
  rw [decide_eq_false (show ¬ (((L n).length : Nat) : Int) = 0 by rw [L_length]; omega)]
  refine mvd ?_
  refine gf ?_
  refine gf ?_
  refine pkd ?_
  refine pkd ?_
  refine rn ?_
  refine .gh (Gh.keep [1, 40] rfl) ?_
  refine cndf ?_
  refine .skip ?_
  show AW _ _ _ _ _ _
  refine .seq ?_
  refine .region ?_
  refine vk (vfa fR1) ?_
  refine ldp ?_ aS
  refine vk (vfa fR2) ?_
  refine ldp ?_ aS
  refine bsl ?_ ?_ e2
  · simp [DV.flat, DV.cells, DV.leaf]
  refine fz (p := .t 45) ?_
  refine cl (xs := [.sl (LL [n, d])]) ?_ g1 Try.call82
  refine cl (xs := []) ?_ refOne_fn Try.call83
  refine fz (p := .t 47) ?_
  refine cl (xs := [.sl (L (digs (Nat.gcd (val n) (val d)))), .sl (L [1])]) ?_ q1 Try.call81
  refine bi ?_
  refine asd ?_
  refine rn ?_
  refine .ret ?_
  exact ⟨by rw [show rightL b n d = decide (cmpN (Nat.gcd (val n) (val d)) 1 = 0) from decide_eq_decide.2 ⟨fun h => cmp_one.2 h.2.2.2.2.2.2, fun h => ⟨h1, h2, by omega, by omega, ne_nil_pos.2 (by omega), fun h0 => by rw [h0] at h6; simp at h6, cmp_one.1 h⟩⟩]; rfl, rfl⟩

/-- Numbers, as they come. -/
abbrev RT := Bool × List Nat × List Nat
def okR (r : RT) : Prop := Ok r.2.1 ∧ Ok r.2.2 ∧ r.2.1.length ≤ 35184372087808 ∧ r.2.2.length ≤ 35184372087808
def rightR (r : RT) : Bool := rightL r.1 r.2.1 r.2.2
end Go.FL
/-
  rat, glyphref02: right, Make; Same.
-/
namespace Go.FL
open Go Go.Proofs


end Go.FL
/-
  rat: OfInt, plus, times, less; glyphref02: OfInt, Zero, signed, Two, Times.
-/
namespace Go.FL
open Go Go.Proofs

theorem u64_nn {z : Int} (h0 : 0 ≤ z) (h1 : z ≤ 9223372036854775807) : IntKind.u64.wrap z = ((z.natAbs : Nat) : Int) := by
  simp only [IntKind.wrap, IntKind.bits, IntKind.signed]; simp; omega
theorem u64_neg {z : Int} (h0 : z < 0) (h1 : -9223372036854775808 ≤ z) : IntKind.u64.wrap (0 - IntKind.u64.wrap z) = ((z.natAbs : Nat) : Int) := by
  simp only [IntKind.wrap, IntKind.bits, IntKind.signed]; simp; omega

theorem OfInt_fn {z : Int} (h1 : -9223372036854775808 ≤ z) (h2 : z ≤ 9223372036854775807) : Fn Try.prog 64 [.i .i64 z] (.d (Rv (decide (z < 0)) (digs z.natAbs) [1])) := by
  have f := Of_fn (n := z.natAbs) (by omega)
  refine Fn.ofC (rs := [.cell 2 35]) (nt := 16) Try.func64 rfl rfl rfl (by simp) rfl ?_
  refine .seq ?_
  refine .region ?_
  refine vk (van (zero_of iR) rR) ?_
  refine rn ?_
  refine .seq ?_
  refine .seq ?_
  refine .region ?_
  refine mvd ?_
  refine bi ?_
  refine rn ?_
  by_cases hz : z < 0
  · rw [decide_eq_true hz]
    refine cndt ?_
    refine .seq ?_
    refine .region ?_
    refine mvd ?_
    refine cv ?_ i64 u64
    refine ng ?_
    rw [u64_neg hz h1]
    refine cl (xs := [.i .u64 ((z.natAbs : Nat) : Int)]) ?_ f Try.call97
    refine cl (xs := []) ?_ one_fn Try.call98
    refine fz (p := .t 9) ?_
    refine vk (vbd pR iR rR) ?_
    refine stn ?_ sR (by decide)
    refine rn ?_
    refine .ret ?_
    exact ⟨_, ⟨.inr rfl, aR, sR, (by decide : (0 : Nat) < 3)⟩, rfl⟩
  rw [decide_eq_false hz]
  refine cndf ?_
  refine .skip ?_
  show AW _ _ _ _ _ _
  refine .seq ?_
  refine .region ?_
  refine mvd ?_
  refine cv ?_ i64 u64
  rw [u64_nn (by omega) h2]
  refine cl (xs := [.i .u64 ((z.natAbs : Nat) : Int)]) ?_ f Try.call97
  refine cl (xs := []) ?_ one_fn Try.call98
  refine fz (p := .t 14) ?_
  refine vk (vbd pR iR rR) ?_
  refine stn ?_ sR (by decide)
  refine rn ?_
  refine .ret ?_
  exact ⟨_, ⟨.inr rfl, aR, sR, (by decide : (0 : Nat) < 3)⟩, rfl⟩


end Go.FL
/-
  rat: fold, Add, Mul.
-/
namespace Go.FL
open Go Go.Proofs

abbrev Q3 := Bool × Nat × Nat
end Go.FL
/-
  GP, 2: facts of the types.
-/
namespace Go.FL
open Go Go.Proofs

theorem ga_bool : aggT Try.prog 4 = some false := by kernel_rfl
theorem ga_int : aggT Try.prog 3 = some false := by kernel_rfl
theorem gk_int : Try.prog.underlying 3 = some (.int .i64) := by kernel_rfl
theorem gk_uint64 : Try.prog.underlying 120 = some (.int .u64) := by kernel_rfl
theorem ga_string : aggT Try.prog 9 = some false := by kernel_rfl
theorem gz_string : szOf Try.prog 9 = 1 := by kernel_rfl
theorem ga_Errno : aggT Try.prog 29 = some false := by kernel_rfl
theorem gA_R : aggT Try.prog 35 = some true := by kernel_rfl
theorem gS_R : szOf Try.prog 35 = 3 := by kernel_rfl
theorem gF_R_0 : fieldT Try.prog 35 0 = some (0, 1) := by kernel_rfl
theorem gF_R_1 : fieldT Try.prog 35 1 = some (1, 1) := by kernel_rfl
theorem gF_R_2 : fieldT Try.prog 35 2 = some (2, 1) := by kernel_rfl
theorem gP_R : structT Try.prog 35 = some [(0, 1), (1, 1), (2, 1)] := by kernel_rfl
theorem gI_R : (Try.prog.info? 35).bind (·.zero) = some (.agg #[.bool false, .slice none 0 0, .slice none 0 0]) := by kernel_rfl
theorem gZ_R (w : World) (I : Nat → Prop) : RepAll w I [.b false, .sl [], .sl []] (Value.agg #[.bool false, .slice none 0 0, .slice none 0 0]).cells.toList := .cons (.b _) (.cons (.sl0 _ _) (.cons (.sl0 _ _) (.nil)))
theorem ga_L : aggT Try.prog 33 = some false := by kernel_rfl
end Go.FL
/-
  GP: facts of the types of reports.
-/
namespace Go.FL
open Go Go.Proofs

abbrev WT := ByteArray × Int × ByteArray × Int
def Ss (xs : List ByteArray) : List DV := xs.map .s
theorem Ss_length (xs : List ByteArray) : (Ss xs).length = xs.length := by simp [Ss]
theorem Ss_at {xs : List ByteArray} {i : Nat} {x : ByteArray} (h : xs[i]? = some x) : (Ss xs)[i]? = some (.s x) := by simp [Ss, h]
theorem Ss_sz1 (xs : List ByteArray) : ∀ x ∈ Ss xs, x.cells.length = 1 := fun x hx => by
  simp only [Ss, List.mem_map] at hx
  obtain ⟨n, _, rfl⟩ := hx; rfl
theorem Ss_sz (xs : List ByteArray) : ∃ sz, ∀ x ∈ Ss xs, x.cells.length = sz := ⟨1, Ss_sz1 xs⟩
theorem Ss_app (xs ys : List ByteArray) : Ss (xs ++ ys) = Ss xs ++ Ss ys := by simp [Ss]
theorem Ss_flat (xs : List ByteArray) : ∀ d ∈ Ss xs, d.flat = true ∧ d.cells.length = 1 := fun x hx => by
  simp only [Ss, List.mem_map] at hx
  obtain ⟨n, _, rfl⟩ := hx
  exact ⟨by simp [DV.flat, DV.cells, DV.leaf], rfl⟩
theorem gA_W : aggT Try.prog 50 = some true := by kernel_rfl
theorem gS_W : szOf Try.prog 50 = 4 := by kernel_rfl
theorem gF_W_0 : fieldT Try.prog 50 0 = some (0, 1) := by kernel_rfl
theorem gF_W_1 : fieldT Try.prog 50 1 = some (1, 1) := by kernel_rfl
theorem gF_W_2 : fieldT Try.prog 50 2 = some (2, 1) := by kernel_rfl
theorem gF_W_3 : fieldT Try.prog 50 3 = some (3, 1) := by kernel_rfl
theorem gP_W : structT Try.prog 50 = some [(0, 1), (1, 1), (2, 1), (3, 1)] := by kernel_rfl
theorem gI_W : (Try.prog.info? 50).bind (·.zero) = some (.agg #[.string ByteArray.empty, .int .i64 0, .string ByteArray.empty, .int .i64 0]) := by kernel_rfl
theorem gZ_W (w : World) (I : Nat → Prop) : RepAll w I [.s ByteArray.empty, .i .i64 0, .s ByteArray.empty, .i .i64 0] (Value.agg #[.string ByteArray.empty, .int .i64 0, .string ByteArray.empty, .int .i64 0]).cells.toList := .cons (.s _) (.cons (.i _ _) (.cons (.s _) (.cons (.i _ _) (.nil))))
theorem gA_V : aggT Try.prog 55 = some true := by kernel_rfl
theorem gS_V : szOf Try.prog 55 = 4 := by kernel_rfl
theorem gF_V_0 : fieldT Try.prog 55 0 = some (0, 1) := by kernel_rfl
theorem gF_V_1 : fieldT Try.prog 55 1 = some (1, 1) := by kernel_rfl
theorem gF_V_2 : fieldT Try.prog 55 2 = some (2, 1) := by kernel_rfl
theorem gF_V_3 : fieldT Try.prog 55 3 = some (3, 1) := by kernel_rfl
theorem gP_V : structT Try.prog 55 = some [(0, 1), (1, 1), (2, 1), (3, 1)] := by kernel_rfl
theorem gI_V : (Try.prog.info? 55).bind (·.zero) = some (.agg #[.string ByteArray.empty, .int .i64 0, .string ByteArray.empty, .int .i64 0]) := by kernel_rfl
theorem gZ_V (w : World) (I : Nat → Prop) : RepAll w I [.s ByteArray.empty, .i .i64 0, .s ByteArray.empty, .i .i64 0] (Value.agg #[.string ByteArray.empty, .int .i64 0, .string ByteArray.empty, .int .i64 0]).cells.toList := .cons (.s _) (.cons (.i _ _) (.cons (.s _) (.cons (.i _ _) (.nil))))
theorem ga_Ss : aggT Try.prog 52 = some false := by kernel_rfl
theorem gs_Ss : sliceT Try.prog 52 = some (9, 1, 16) := by kernel_rfl
theorem ge_Ss : elemT Try.prog 52 = some (9, 1, 16, .string ByteArray.empty) := by kernel_rfl
theorem gu_Ss : Try.prog.underlying 52 = some (.slice (Try.prog.elem 52)) := by kernel_rfl
theorem gB_Ss : (8796093022208 : Nat) * 16 ≤ 140737488355328 ∧ (8796093022208 : Nat) ≤ 9223372036854775807 := by decide
end Go.FL
/-
  Arguments that are places of errors, opened.
-/
namespace Go.FL
open Go Go.Proofs

section
variable {H : Type} {enc : TypeId × Value → H} {W : World}
def inW (w : WT) : Prop := w.1.size ≤ 140737488351232 ∧ (-9223372036854775808 ≤ w.2.1 ∧ w.2.1 ≤ 9223372036854775807) ∧ w.2.2.1.size ≤ 140737488351232 ∧ (-9223372036854775808 ≤ w.2.2.2 ∧ w.2.2.2 ≤ 9223372036854775807)
theorem wf_i64 {e : Int} (he : (Lit.int .i64 e).wf = true) : -9223372036854775808 ≤ e ∧ e ≤ 9223372036854775807 := by
  simp only [Lit.wf, IntKind.min, IntKind.max, IntKind.bits, IntKind.signed] at he
  simp at he; omega
theorem op_where (n : Nat) : OpF enc Try.prog W n 50 (fun w : WT => [.s w.1, .i .i64 w.2.1, .s w.2.2.1, .i .i64 w.2.2.2]) inW := by
  refine OpF.mono (n := n + 1) ((op_struct4 (t := 50) (T0 := 9) (T1 := 3) (T2 := 9) (T3 := 3) (s0 := 1) (s1 := 1) (s2 := 1) (s3 := 1) (by kernel_rfl) (by kernel_rfl) (by kernel_rfl) (op_string (by kernel_rfl)) (by kernel_rfl) (op_int (by kernel_rfl : Try.prog.underlying 3 = some (.int .i64))) (by kernel_rfl) (op_string (by kernel_rfl)) (by kernel_rfl) (op_int (by kernel_rfl : Try.prog.underlying 3 = some (.int .i64)))).map fun r hr => ?_) (Nat.le_succ n)
  have e : reachBytes = 140737488351232 := by decide
  rw [e] at hr
  exact ⟨r, ⟨hr.1, wf_i64 hr.2.1, hr.2.2.1, wf_i64 hr.2.2.2⟩, rfl⟩
theorem op_texts (n : Nat) : OpF enc Try.prog W n 52 (fun l : List ByteArray => [.sl (Ss l)]) (fun l => l.length ≤ 8796093022000) := by
  refine OpF.mono (n := n + 1) ((op_slice (α := ByteArray) (F := fun s => [.s s]) (sz := 1) (fun s => .s s) (by kernel_rfl : Try.prog.underlying 52 = some (.slice 9)) (by kernel_rfl) (by decide) (fun _ => rfl) (op_string (by kernel_rfl))).map fun zs hz => ?_) (Nat.le_succ n)
  refine ⟨zs, ?_, rfl⟩
  have h3 := hz.2
  rw [show Try.prog.bytesOf 9 = 16 by kernel_rfl, show reachBytes = 140737488351232 by decide] at h3
  omega
def inO (o : List ByteArray × Int × WT × Int) : Prop := o.1.length ≤ 8796093022000 ∧ (-9223372036854775808 ≤ o.2.1 ∧ o.2.1 ≤ 9223372036854775807) ∧ inW o.2.2.1
theorem op_outcome (n : Nat) : OpF enc Try.prog W n 75 (fun o : List ByteArray × Int × WT × Int => [.sl (Ss o.1), .i .i64 o.2.1, .s o.2.2.1.1, .i .i64 o.2.2.1.2.1, .s o.2.2.1.2.2.1, .i .i64 o.2.2.1.2.2.2, .i .i64 o.2.2.2]) inO := by
  refine OpF.mono (n := n + 1) ((op_struct4 (t := 75) (T0 := 52) (T1 := 29) (T2 := 50) (T3 := 3) (s0 := 1) (s1 := 1) (s2 := 4) (s3 := 1) (by kernel_rfl) (by kernel_rfl) (by kernel_rfl) (op_texts n) (by kernel_rfl) (op_int (by kernel_rfl : Try.prog.underlying 29 = some (.int .i64))) (by kernel_rfl) (op_where n) (by kernel_rfl) (op_int (by kernel_rfl : Try.prog.underlying 3 = some (.int .i64)))).map fun r hr => ?_) (Nat.le_succ n)
  exact ⟨r, ⟨hr.1, wf_i64 hr.2.1, hr.2.2.1⟩, rfl⟩
end
end Go.FL
/-
  Plain facts of texts: characters and bytes.
-/
namespace Go.FL
open Go

end Go.FL
/-
  Texts and their numbers.
-/
namespace Go.FL
open Go Go.Proofs

/-- What digits read as, behind a number; or none. -/
def pv : List Nat → Nat → Option Nat
  | [], n => some n
  | c :: r, n => if 48 ≤ c ∧ c ≤ 57 then pv r (n * 10 + (c - 48)) else none
theorem decT_len {n k : Nat} (h : n < 10 ^ k) : (decT n).length ≤ k + 1 := by
  unfold decT
  split
  · simp
  · rw [List.length_reverse]; have := decR_len h; omega
end Go.FL
/-
  nat.Parse; glyphref01's Parse, Print.
-/
namespace Go.FL
open Go Go.Proofs

end Go.FL
/-
  glyphref01.Print.
-/
namespace Go.FL
open Go Go.Proofs

theorem bstr_append (a b : List Nat) : bstr a ++ bstr b = bstr (a ++ b) := by
  apply ByteArray.ext
  simp [bstr, ByteArray.data_append]
theorem bstr_size (a : List Nat) : (bstr a).size = a.length := by
  show (bstr a).data.size = _
  simp [bstr]
theorem refPrint_fn {a : List Nat} (h : Ok a) (hl : a.length ≤ 100000) : Fn Try.prog 137 [.sl (L a)] (.d (.s (bstr (decT (val a))))) := by
  have hNl := val_lt h
  have hdl : (decR (val a)).length ≤ 10 * a.length := decR_len (Nat.lt_of_lt_of_le hNl (by
    rw [Nat.pow_mul]; exact Nat.pow_le_pow_left (by decide) _))
  refine Fn.of (rs := [.tmp 2]) (nt := 41) Try.func137 rfl rfl rfl (by simp) rfl ?_
  refine .seq ?_
  refine .region ?_
  refine asd ?_
  refine rn ?_
  refine .seq ?_
  refine .region ?_
  refine asd ?_
  refine rn ?_
  refine .seq ?_
  refine .region ?_
  refine bsl ?_ ?_ e32
  · simp [DV.flat, DV.cells, DV.leaf]
  refine aso ?_
  refine rn ?_
  refine .mid (fun e H' => H' = [] ∧ e = [(3, .d (.s (bstr (decR (val a)).reverse)))]) ?_ ?_
  · refine .seq ?_
    refine .region ?_
    refine mvd ?_
    refine cl (xs := [.sl (L a)]) ?_ (refTrim_fn h (by omega)) Try.call116
    refine aso ?_
    refine rn ?_
    refine .block ?_
    refine .gh (Gh.frz (p := .t 4) rfl (fun _ _ h => by cases h)) ?_
    refine .gh (Gh.frz (p := .t 5) rfl (fun _ _ h => by cases h)) ?_
    refine .loop (.gh (Gh.keep [3, 4, 5] rfl) ?_)
    refine AL.ind (σ := List Nat × Nat) (m := fun s => s.2) (e := fun s => [(3, .d (.s (bstr s.1.reverse))), (4, .d (.sl (L [10]))), (5, .d (.sl (L (digs s.2))))]) (h := fun _ => [])
      (I := fun s => decR (val a) = s.1 ++ decR s.2 ∧ s.2 ≤ val a) ?_ ([], val a) ⟨by simp, Nat.le_refl _⟩
    rintro ⟨ds, m⟩ ⟨h1, h2⟩ ih
    dsimp only at h1 h2 ih ⊢
    refine .seq ?_
    refine .seq ?_
    refine .region ?_
    refine mvd ?_
    refine ln ?_ (L_sz _) l32
    refine bi ?_
    refine rn ?_
    by_cases hm : m = 0
    · subst hm
      rw [digs_zero]
      refine cndf ?_
      refine .gh (Gh.keep [3] rfl) ?_
      refine .exit ?_
      refine ⟨rfl, ?_⟩
      rw [h1, decR_zero, List.append_nil]; rfl
    · have hdn := digs_ne (show 0 < m by omega)
      rw [decide_eq_true (show (0:Int) < ((L (digs m)).length : Nat) by rw [L_length]; omega)]
      have hml : (digs m).length ≤ 100000 := Nat.le_trans (digs_len (Nat.lt_of_le_of_lt h2 hNl)) hl
      have fd := refDivMod_fn (a := digs m) (b := [10]) (digs_ok m) (by simp [Ok]) hml (by simp)
      have hv10 : val [10] = 10 := by simp [val]
      rw [val_digs, hv10, remN, if_neg (by decide)] at fd
      have hdec := decR_pos hm
      have hdsl : ds.length ≤ 1000000 := by rw [h1] at hdl; simp at hdl; omega
      have hr : m % 10 < 10 := Nat.mod_lt _ (by decide)
      have hqm : m / 10 < m := by omega
      refine cndt ?_
      refine .skip ?_
      show AW _ _ _ _ _ _
      refine .block ?_
      refine .seq ?_
      refine .region ?_
      refine mvd ?_
      refine mvd ?_
      refine cl (xs := [.sl (L (digs m)), .sl (L [10])]) ?_ fd Try.call150
      refine mvt ?_
      refine ex ?_
      refine ex ?_
      refine ex ?_
      refine asd ?_
      refine asd ?_
      refine asd ?_
      refine rn ?_
      refine .gh (Gh.keep [3, 4, 5, 6, 7] rfl) ?_
      generalize m % 10 = r at *
      generalize m / 10 = q at *
      refine .seq ?_
      refine .region ?_
      refine asd ?_
      refine rn ?_
      refine .mid (fun e H' => H' = [] ∧ e = [(3, .d (.s (bstr ds.reverse))), (4, .d (.sl (L [10]))), (6, .d (.sl (L (digs q)))), (9, .d (.i .i64 (r : Int)))]) ?_ ?_
      · refine .seq ?_
        refine .region ?_
        refine mvd ?_
        refine ln ?_ (L_sz _) l32
        refine bi ?_
        refine rn ?_
        by_cases hr0 : r = 0
        · subst hr0
          rw [digs_zero]
          refine cndf ?_
          refine .gh (Gh.keep [3, 4, 6, 9] rfl) ?_
          refine .skip ?_
          exact ⟨rfl, rfl⟩
        · rw [one_limb (n := r) (by omega) (by omega)]
          refine cndt ?_
          refine .region ?_
          refine mvd ?_
          refine ix 0 ?_ rfl (L_at rfl) rfl s32
          refine ldp ?_ a32
          refine cve (r : Int) (wraps_i64 _ (by omega) (by omega)) ?_ u32 i64
          refine asd ?_
          refine RL.gh (Gh.keep [3, 4, 6, 9] rfl) ?_
          refine .nil ?_
          exact ⟨rfl, rfl⟩
      rintro _ _ ⟨rfl, rfl⟩
      refine .seq ?_
      refine .region ?_
      refine mvd ?_
      refine ad ((48 + r : Nat) : Int) ?_ ?_
      · omega
      refine cve ((48 + r : Nat) : Int) (wrapU8 (by omega)) ?_ i64 u8
      refine bsl ?_ ?_ e8
      · simp [DV.flat, DV.cells, DV.leaf]
      refine cvs (ns := [48 + r]) q8 u8 st (by simp) ?_
      refine mvd ?_
      refine sad ?_ ?_
      · rw [bstr_size, bstr_size]; simp; omega
      rw [bstr_append]
      refine asd ?_
      refine rn ?_
      refine .region ?_
      refine mvd ?_
      refine asd ?_
      refine .nil ?_
      refine AL.gh (Gh.keep [3, 4, 5] rfl) ?_
      have := ih (ds ++ [48 + r], q) ⟨by dsimp only; rw [h1, hdec]; simp, by dsimp only; omega⟩ hqm
      dsimp only at this
      rw [List.reverse_append] at this
      exact this
  rintro _ _ ⟨rfl, rfl⟩
  refine .seq ?_
  refine .seq ?_
  refine .region ?_
  refine mvd ?_
  refine seq_ ?_
  refine rn ?_
  by_cases hN : val a = 0
  · rw [hN, decR_zero]
    refine cndt ?_
    refine .seq ?_
    refine .region ?_
    refine asd ?_
    refine rn ?_
    refine .ret ?_
    exact ⟨rfl, rfl⟩
  · have hpos := List.length_pos_iff.2 (decR_ne hN)
    have hne : ¬ bstr (decR (val a)).reverse = { data := #[] } := fun he => by
      have := congrArg ByteArray.size he
      rw [bstr_size, List.length_reverse] at this
      have h0 : (ByteArray.mk #[]).size = 0 := rfl
      omega
    rw [if_pos rfl, decide_eq_false hne]
    refine cndf ?_
    refine .skip ?_
    show AW _ _ _ _ _ _
    refine .seq ?_
    refine .region ?_
    refine mvd ?_
    refine asd ?_
    refine rn ?_
    refine .ret ?_
    exact ⟨by unfold decT; rw [if_neg hN]; rfl, rfl⟩
end Go.FL
/-
  GP, 3: the contracts of numbers that were proved by hand, in the printed form.
-/
namespace Go.FL
open Go Go.Proofs

def okL (k : Nat) (a : List Nat) : Bool := a.all (fun x => decide (x < 4294967296)) && decide (a.length ≤ k)
theorem okL_iff {k : Nat} {a : List Nat} : okL k a = true ↔ Ok a ∧ a.length ≤ k := by simp [okL, Ok]
def okRB (r : RT) : Bool := okL 35184372087808 r.2.1 && okL 35184372087808 r.2.2
theorem okRB_iff {r : RT} : okRB r = true ↔ okR r := by
  simp only [okRB, Bool.and_eq_true, okL_iff, okR]
  exact ⟨fun ⟨⟨a, b⟩, c, d⟩ => ⟨a, c, b, d⟩, fun ⟨a, c, b, d⟩ => ⟨⟨a, b⟩, c, d⟩⟩
def nPrint (a : List Nat) : Option (ByteArray) := if okL 1048576 a = true then some (bstr (decT (val a))) else none
theorem nPrint_ok {a : List Nat} {r : ByteArray} (h : nPrint a = some r) : Fn Try.prog 136 [.sl (L a)] (.d (.s r)) := by
  obtain ⟨hc, h⟩ := ite_n h
  cases h
  obtain ⟨h1, h2⟩ := okL_iff.1 hc
  exact Print_fn h1 (by omega)

def ratOne : Option (List Nat) := if True then some ([1]) else none
theorem ratOne_ok {r : List Nat} (h : ratOne = some r) : Fn Try.prog 98 [] (.own 125 (L r)) := by
  obtain ⟨hc, h⟩ := ite_n h
  cases h
  exact one_fn

def ref2One : Option (List Nat) := if True then some ([1]) else none
theorem ref2One_ok {r : List Nat} (h : ref2One = some r) : Fn Try.prog 83 [] (.own 125 (L r)) := by
  obtain ⟨hc, h⟩ := ite_n h
  cases h
  exact refOne_fn

def sEqualL (a : List Nat) (b : List Nat) : Option (Bool) := if (okL 1048576 a && okL 35184372087808 b) = true then some (decide (a = b)) else none
theorem sEqualL_ok {a : List Nat} {b : List Nat} {r : Bool} (h : sEqualL a b = some r) : Fn Try.prog 113 [.sl (L a), .sl (L b)] (.d (.b r)) := by
  obtain ⟨hc, h⟩ := ite_n h
  cases h
  simp only [Bool.and_eq_true, okL_iff] at hc
  exact Equal_fn a b hc.1.2 hc.1.1 hc.2.1

def ratRight (a : RT) : Option (Bool) := if okRB a = true then some (rightR a) else none
theorem ratRight_ok {a : RT} {r : Bool} (h : ratRight a = some r) : Fn Try.prog 77 [.ag [.b a.1, .sl (L a.2.1), .sl (L a.2.2)]] (.d (.b r)) := by
  obtain ⟨hc, h⟩ := ite_n h
  cases h
  obtain ⟨h1, h2, h3, h4⟩ := okRB_iff.1 hc
  exact RRight_fn h1 h2 h3 h4

def ref2Right (a : RT) : Option (Bool) := if okRB a = true then some (rightR a) else none
theorem ref2Right_ok {a : RT} {r : Bool} (h : ref2Right a = some r) : Fn Try.prog 38 [.ag [.b a.1, .sl (L a.2.1), .sl (L a.2.2)]] (.d (.b r)) := by
  obtain ⟨hc, h⟩ := ite_n h
  cases h
  obtain ⟨h1, h2, h3, h4⟩ := okRB_iff.1 hc
  exact refRR_fn h1 h2 h3 h4

def ratOfInt (z : Int) : Option (RT) := if -9223372036854775808 ≤ z ∧ z ≤ 9223372036854775807 then some ((decide (z < 0), digs z.natAbs, [1])) else none
theorem ratOfInt_ok {z : Int} {r : RT} (h : ratOfInt z = some r) : Fn Try.prog 64 [.i .i64 z] (.d (.ag [.b r.1, .sl (L r.2.1), .sl (L r.2.2)])) := by
  obtain ⟨hc, h⟩ := ite_n h
  cases h
  exact OfInt_fn hc.1 hc.2

def r1Of (n : Int) : Option (List Nat) := if 0 ≤ n ∧ n < 18446744073709551616 then some (digs n.toNat) else none
theorem r1Of_ok {n : Int} {r : List Nat} (h : r1Of n = some r) : Fn Try.prog 115 [.i .u64 n] (.own 125 (L r)) := by
  obtain ⟨hc, h⟩ := ite_n h
  cases h
  have := refOf_fn (n := n.toNat) (by omega)
  rw [Int.toNat_of_nonneg hc.1] at this
  exact this

def r1Same (a : List Nat) (b : List Nat) : Option (Bool) := if a.length ≤ 35184372087808 then some (decide (a = b)) else none
theorem r1Same_ok {a : List Nat} {b : List Nat} {r : Bool} (h : r1Same a b = some r) : Fn Try.prog 130 [.sl (L a), .sl (L b)] (.d (.b r)) := by
  obtain ⟨hc, h⟩ := ite_n h
  cases h
  exact Same_fn a b hc

def r1Print (a : List Nat) : Option (ByteArray) := if okL 100000 a = true then some (bstr (decT (val a))) else none
theorem r1Print_ok {a : List Nat} {r : ByteArray} (h : r1Print a = some r) : Fn Try.prog 137 [.sl (L a)] (.d (.s r)) := by
  obtain ⟨hc, h⟩ := ite_n h
  cases h
  obtain ⟨h1, h2⟩ := okL_iff.1 hc
  exact refPrint_fn h1 (by omega)

end Go.FL
/-
  Plain laws, rat 1: right numbers are the rationals that fit.
-/
namespace Go.FL
open Go Go.Proofs

abbrev sg (b : Bool) (n : Nat) : Int := if b = true then -(n : Int) else n
def ofQ (p : Rat) : RT := (decide (p.num < 0), digs p.num.natAbs, digs p.den)
def small (n : Nat) : Prop := (digs n).length ≤ 32
instance (n : Nat) : Decidable (small n) := inferInstanceAs (Decidable (_ ≤ _))
def fits (p : Rat) : Prop := small p.num.natAbs ∧ small p.den
instance (p : Rat) : Decidable (fits p) := inferInstanceAs (Decidable (_ ∧ _))
theorem sg_natAbs (b : Bool) (n : Nat) : (sg b n).natAbs = n := by cases b <;> simp [sg]
theorem sg_neg (b : Bool) (n : Nat) : decide (sg b n < 0) = (b && decide (n ≠ 0)) := by
  cases b with
  | false => simp [sg]
  | true => simp only [sg, if_true, Bool.true_and]; apply decide_eq_decide.2; omega
theorem digs_inj {m n : Nat} (h : digs m = digs n) : m = n := by rw [← val_digs m, h, val_digs]
/-- A rational, as its parts. -/
abbrev q3 (p : Rat) : Q3 := (decide (p.num < 0), p.num.natAbs, p.den)
theorem right_iff {r : RT} : rightR r = true ↔ ∃ p, fits p ∧ r = ofQ p := by
  obtain ⟨b, n, d⟩ := r
  simp only [rightR, rightL, decide_eq_true_eq]
  constructor
  · rintro ⟨h1, h2, h3, h4, h5, h6, h7⟩
    have hd0 : val d ≠ 0 := fun h => h5 (by rw [← h2, h, digs_zero])
    refine ⟨⟨sg b (val n), val d, hd0, by rw [Nat.Coprime, sg_natAbs]; exact h7⟩, ⟨?_, ?_⟩, ?_⟩
    · show small (sg b (val n)).natAbs
      rw [sg_natAbs, small, h1]; exact h3
    · show small (val d)
      rw [small, h2]; exact h4
    · simp only [ofQ, sg_natAbs, h1, h2]
      rw [sg_neg]
      congr 1
      cases b with
      | false => rfl
      | true =>
        have : n ≠ [] := fun h => by have := h6 h; cases this
        have hn0 : val n ≠ 0 := fun h => this (by rw [← h1, h, digs_zero])
        simp [hn0]
  · rintro ⟨p, ⟨h1, h2⟩, h⟩
    simp only [ofQ, Prod.mk.injEq] at h
    obtain ⟨rfl, rfl, rfl⟩ := h
    refine ⟨by rw [val_digs], by rw [val_digs], h1, h2, ?_, ?_, ?_⟩
    · intro h
      have := digs_nil_iff.1 h
      exact p.den_nz this
    · intro h
      have := digs_nil_iff.1 h
      exact decide_eq_false (by omega)
    · rw [val_digs, val_digs]; exact p.reduced
theorem ofQ_right {p : Rat} (h : fits p) : rightR (ofQ p) = true := right_iff.2 ⟨p, h, rfl⟩
theorem okL_digs {k n : Nat} (h : (digs n).length ≤ k) : okL k (digs n) = true := okL_iff.2 ⟨digs_ok n, h⟩
theorem small_ok {k n : Nat} (h : small n) (hk : 32 ≤ k) : okL k (digs n) = true := okL_digs (Nat.le_trans h hk)
theorem ofQ_okRB {p : Rat} (h : fits p) : okRB (ofQ p) = true := by
  simp only [okRB, Bool.and_eq_true]
  exact ⟨small_ok h.1 (by decide), small_ok h.2 (by decide)⟩
theorem one_digs : digs 1 = [1] := one_limb (n := 1) (by decide) (by decide)
end Go.FL
/-
  GP: rat: differences, quotients, rounding.
-/
namespace Go.FL
open Go Go.Proofs

end Go.FL
/-
  GP: rat: comparisons, residues, powers, texts.
-/
namespace Go.FL
open Go Go.Proofs

def rat_Print (a0 : RT) : Option (ByteArray) := ((ratRight a0).bind fun x1 => (if x1 = true then ((nPrint a0.2.1).bind fun x2 => (if a0.1 = true then ((sap? (⟨#[194, 175]⟩ : ByteArray) x2).bind fun x3 => (ratOne.bind fun x4 => ((sEqualL a0.2.2 x4).bind fun x5 => (if x5 = true then (some (x3)) else ((nPrint a0.2.2).bind fun x6 => ((sap? (⟨#[114]⟩ : ByteArray) x6).bind fun x7 => ((sap? x3 x7).bind fun x8 => (some (x8))))))))) else (ratOne.bind fun x9 => ((sEqualL a0.2.2 x9).bind fun x10 => (if x10 = true then (some (x2)) else ((nPrint a0.2.2).bind fun x11 => ((sap? (⟨#[114]⟩ : ByteArray) x11).bind fun x12 => ((sap? x2 x12).bind fun x13 => (some (x13)))))))))) else (some ((⟨#[]⟩ : ByteArray)))))
theorem rat_Print_ok {a0 : RT} {r : ByteArray} (h : rat_Print a0 = some r) :
    Fn Try.prog 110 [.ag [.b a0.1, .sl (L a0.2.1), .sl (L a0.2.2)]] (.d (.s r)) := by
  unfold rat_Print at h
  refine Fn.of (rs := [.tmp 2]) (nt := 26) Try.func110 rfl rfl rfl (by simp) rfl ?_
  refine .seq ?_
  refine .region ?_
  refine vk (vbx) ?_
  refine asd ?_
  refine rn ?_
  refine .gh (Gh.keep [1, 2] rfl) ?_
  refine .seq ?_
  refine .seq ?_
  refine .region ?_
  refine vk (vlda gA_R gS_R) ?_
  obtain ⟨x1, hx1, h⟩ := bnd h
  refine vk (vcl0 (ratRight_ok hx1) Try.call77) ?_
  refine vk (vnt) ?_
  refine rn ?_
  refine .gh (Gh.keep [1, 2, 6] rfl) ?_
  by_cases hc : x1 = true
  · replace h := ite_t hc h
    refine cnf (ntf hc) ?_
    refine .skip ?_
    show AW _ _ _ _ _ _
    refine .seq ?_
    refine .region ?_
    refine vk (vfa gF_R_1) ?_
    refine vk (vldp ga_L) ?_
    obtain ⟨x2, hx2, h⟩ := bnd h
    refine vk (vcl0 (nPrint_ok hx2) Try.call136) ?_
    refine asd ?_
    refine rn ?_
    refine .gh (Gh.keep [1, 2, 3] rfl) ?_
    refine .seq ?_
    refine .seq ?_
    refine .region ?_
    refine vk (vfa gF_R_0) ?_
    refine vk (vldp ga_bool) ?_
    refine rn ?_
    refine .gh (Gh.keep [1, 2, 3, 11] rfl) ?_
    by_cases hc : a0.1 = true
    · replace h := ite_t hc h
      refine cnt hc ?_
      refine .region ?_
      refine vk (vmvd) ?_
      obtain ⟨x3, hx3, h⟩ := bnd h
      refine vk (vsa hx3) ?_
      refine asd ?_
      refine rn ?_
      refine .gh (Gh.keep [1, 2, 3] rfl) ?_
      refine .seq ?_
      refine .seq ?_
      refine .drawn 5 mixed (by kernel_rfl) ?_
      refine dv (vfa gF_R_2) ?_
      refine dv (vldp ga_L) ?_
      obtain ⟨x4, hx4, h⟩ := bnd h
      refine dv ((vcl0 (ratOne_ok hx4) Try.call98).deep) ?_
      obtain ⟨x5, hx5, h⟩ := bnd h
      refine dv (vcl0 (sEqualL_ok hx5) Try.call113) ?_
      refine dv (vnt) ?_
      refine dz ?_
      refine rn ?_
      refine .gh (Gh.keep [1, 2, 3, 18] rfl) ?_
      by_cases hc : x5 = true
      · replace h := ite_t hc h
        refine cnf (ntf hc) ?_
        refine .skip ?_
        show AW _ _ _ _ _ _
        refine .seq ?_
        refine .region ?_
        refine vk (vmvd) ?_
        refine asd ?_
        refine rn ?_
        refine .gh (Gh.keep [2] rfl) ?_
        refine .ret ?_
        cases h
        exact ⟨rfl, rfl⟩
      replace h := ite_f hc h
      refine cnt (ntt (bf hc)) ?_
      refine .region ?_
      refine vk (vmvd) ?_
      refine vk (vfa gF_R_2) ?_
      refine vk (vldp ga_L) ?_
      obtain ⟨x6, hx6, h⟩ := bnd h
      refine vk (vcl0 (nPrint_ok hx6) Try.call136) ?_
      obtain ⟨x7, hx7, h⟩ := bnd h
      refine vk (vsa hx7) ?_
      obtain ⟨x8, hx8, h⟩ := bnd h
      refine vk (vsa hx8) ?_
      refine asd ?_
      refine rn ?_
      refine .gh (Gh.keep [2, 3] rfl) ?_
      refine .seq ?_
      refine .region ?_
      refine vk (vmvd) ?_
      refine asd ?_
      refine rn ?_
      refine .gh (Gh.keep [2] rfl) ?_
      refine .ret ?_
      cases h
      exact ⟨rfl, rfl⟩
    replace h := ite_f hc h
    refine cnf (bf hc) ?_
    refine .skip ?_
    show AW _ _ _ _ _ _
    refine .seq ?_
    refine .seq ?_
    refine .drawn 5 mixed (by kernel_rfl) ?_
    refine dv (vfa gF_R_2) ?_
    refine dv (vldp ga_L) ?_
    obtain ⟨x9, hx9, h⟩ := bnd h
    refine dv ((vcl0 (ratOne_ok hx9) Try.call98).deep) ?_
    obtain ⟨x10, hx10, h⟩ := bnd h
    refine dv (vcl0 (sEqualL_ok hx10) Try.call113) ?_
    refine dv (vnt) ?_
    refine dz ?_
    refine rn ?_
    refine .gh (Gh.keep [1, 2, 3, 18] rfl) ?_
    by_cases hc : x10 = true
    · replace h := ite_t hc h
      refine cnf (ntf hc) ?_
      refine .skip ?_
      show AW _ _ _ _ _ _
      refine .seq ?_
      refine .region ?_
      refine vk (vmvd) ?_
      refine asd ?_
      refine rn ?_
      refine .gh (Gh.keep [2] rfl) ?_
      refine .ret ?_
      cases h
      exact ⟨rfl, rfl⟩
    replace h := ite_f hc h
    refine cnt (ntt (bf hc)) ?_
    refine .region ?_
    refine vk (vmvd) ?_
    refine vk (vfa gF_R_2) ?_
    refine vk (vldp ga_L) ?_
    obtain ⟨x11, hx11, h⟩ := bnd h
    refine vk (vcl0 (nPrint_ok hx11) Try.call136) ?_
    obtain ⟨x12, hx12, h⟩ := bnd h
    refine vk (vsa hx12) ?_
    obtain ⟨x13, hx13, h⟩ := bnd h
    refine vk (vsa hx13) ?_
    refine asd ?_
    refine rn ?_
    refine .gh (Gh.keep [2, 3] rfl) ?_
    refine .seq ?_
    refine .region ?_
    refine vk (vmvd) ?_
    refine asd ?_
    refine rn ?_
    refine .gh (Gh.keep [2] rfl) ?_
    refine .ret ?_
    cases h
    exact ⟨rfl, rfl⟩
  replace h := ite_f hc h
  refine cnt (ntt (bf hc)) ?_
  refine .seq ?_
  refine .region ?_
  refine asd ?_
  refine rn ?_
  refine .gh (Gh.keep [1, 2] rfl) ?_
  refine .ret ?_
  cases h
  exact ⟨rfl, rfl⟩
end Go.FL
/-
  Plain laws, rat 2: sums, differences, products, quotients, as the program reckons them.
-/
namespace Go.FL
open Go Go.Proofs

theorem w64_eq {z : Int} (h1 : -9223372036854775808 ≤ z) (h2 : z ≤ 9223372036854775807) : w64 z = z := wrap64 h1 h2
theorem bind_eq {α β : Type} {x : Option α} {a : α} {f : α → Option β} {r : Option β} (h : x = some a) (h2 : f a = r) : x.bind f = r := by rw [h]; exact h2
theorem ratRight_eq {r : RT} (h : okRB r = true) : ratRight r = some (rightR r) := if_pos h
theorem ref2Right_eq {r : RT} (h : okRB r = true) : ref2Right r = some (rightR r) := if_pos h
theorem ratOne_eq : ratOne = some [1] := if_pos trivial
theorem ref2One_eq : ref2One = some [1] := if_pos trivial
theorem ofInt_q {z : Int} (h1 : -9223372036854775808 ≤ z) (h2 : z ≤ 9223372036854775807) : ratOfInt z = some (ofQ z) := by
  have : ratOfInt z = some (decide (z < 0), digs z.natAbs, [1]) := if_pos ⟨h1, h2⟩
  rw [this]
  show _ = some (decide (z < 0), digs z.natAbs, digs 1)
  rw [one_digs]
theorem fits_int {z : Int} (h1 : -9223372036854775808 ≤ z) (h2 : z ≤ 9223372036854775808) : fits (z : Rat) := by
  constructor
  · show (digs z.natAbs).length ≤ 32
    exact Nat.le_trans (digs_len (k := 3) (by omega)) (by decide)
  · show (digs 1).length ≤ 32
    rw [one_digs]; decide
end Go.FL
/-
  Plain laws, rat 3: sizes, negatives, rounding, signs, comparisons, sums of many.
-/
namespace Go.FL
open Go Go.Proofs

theorem equalL_eq {a b : List Nat} (ha : okL 1048576 a = true) (hb : okL 35184372087808 b = true) : sEqualL a b = some (decide (a = b)) := if_pos (by rw [ha, hb]; rfl)
end Go.FL
/-
  Plain laws, rat 4: comparisons; sums and products of many.
-/
namespace Go.FL
open Go Go.Proofs

end Go.FL
/-
  GP: rat: numbers out of texts.
-/
namespace Go.FL
open Go Go.Proofs

end Go.FL
/-
  GP: glyphlaw02: live, same.
-/
namespace Go.FL
open Go Go.Proofs

end Go.FL
/-
  Plain laws, rat 6: what must be whatever is asked.
-/
namespace Go.FL
open Go Go.Proofs

theorem few_len {n : Nat} (h : n < 4294967296) : (digs n).length ≤ 1 := digs_len (k := 1) (by simpa using h)
end Go.FL
/-
  GP: glyphref02: sums, products, rounding.
-/
namespace Go.FL
open Go Go.Proofs

def ref02_OfInt (a0 : Int) : Option (RT) := (if a0 < 0 then ((r1Of (IntKind.wrap .u64 (0 - (IntKind.wrap .u64 a0)))).bind fun x1 => (ref2One.bind fun x2 => (some (((decide (a0 < 0)), x1, x2))))) else ((r1Of (IntKind.wrap .u64 a0)).bind fun x3 => (ref2One.bind fun x4 => (some (((decide (a0 < 0)), x3, x4))))))
theorem ref02_OfInt_ok {a0 : Int} {r : RT} (h : ref02_OfInt a0 = some r) :
    Fn Try.prog 79 [.i .i64 a0] (.d (.ag [.b r.1, .sl (L r.2.1), .sl (L r.2.2)])) := by
  unfold ref02_OfInt at h
  refine Fn.ofC (rs := [.cell 2 35]) (nt := 16) Try.func79 rfl rfl rfl (by simp) rfl ?_
  refine .seq ?_
  refine .region ?_
  refine vk (van (zero_of gI_R) gZ_R) ?_
  refine rn ?_
  refine .gh (Gh.keep [0, 2] rfl) ?_
  refine .seq ?_
  refine .region ?_
  refine vk (vmvd) ?_
  refine vk (vcv gk_int gk_uint64) ?_
  refine asd ?_
  refine rn ?_
  refine .gh (Gh.keep [0, 2, 3] rfl) ?_
  refine .seq ?_
  refine .seq ?_
  refine .region ?_
  refine vk (vmvd) ?_
  refine vk (vbi) ?_
  refine rn ?_
  refine .gh (Gh.keep [0, 2, 3, 7] rfl) ?_
  by_cases hc : a0 < 0
  · replace h := ite_t hc h
    refine cnt (decide_eq_true hc) ?_
    refine .region ?_
    refine vk (vmvd) ?_
    refine vk (vng) ?_
    refine asd ?_
    refine rn ?_
    refine .gh (Gh.keep [0, 2, 3] rfl) ?_
    refine .seq ?_
    refine .region ?_
    refine vk (vmvd) ?_
    refine vk (vbi) ?_
    refine vk (vmvd) ?_
    obtain ⟨x1, hx1, h⟩ := bnd h
    refine vk ((vcl0 (r1Of_ok hx1) Try.call115).deep) ?_
    obtain ⟨x2, hx2, h⟩ := bnd h
    refine vk ((vcl0 (ref2One_ok hx2) Try.call83).deep) ?_
    refine vk (vbd gP_R gI_R gZ_R) ?_
    refine stn ?_ gS_R (by decide)
    refine rn ?_
    refine .gh (Gh.keep [2] rfl) ?_
    refine .ret ?_
    cases h
    exact ⟨_, ⟨.inr rfl, gA_R, gS_R, (by decide : (0 : Nat) < 3)⟩, rfl⟩
  replace h := ite_f hc h
  refine cnf (decide_eq_false hc) ?_
  refine .skip ?_
  show AW _ _ _ _ _ _
  refine .seq ?_
  refine .region ?_
  refine vk (vmvd) ?_
  refine vk (vbi) ?_
  refine vk (vmvd) ?_
  obtain ⟨x3, hx3, h⟩ := bnd h
  refine vk ((vcl0 (r1Of_ok hx3) Try.call115).deep) ?_
  obtain ⟨x4, hx4, h⟩ := bnd h
  refine vk ((vcl0 (ref2One_ok hx4) Try.call83).deep) ?_
  refine vk (vbd gP_R gI_R gZ_R) ?_
  refine stn ?_ gS_R (by decide)
  refine rn ?_
  refine .gh (Gh.keep [2] rfl) ?_
  refine .ret ?_
  cases h
  exact ⟨_, ⟨.inr rfl, gA_R, gS_R, (by decide : (0 : Nat) < 3)⟩, rfl⟩

end Go.FL
/-
  Plain laws, rat 5: the reference's numbers.
-/
namespace Go.FL
open Go Go.Proofs

theorem ref_ofInt_q {z : Int} (h1 : -9223372036854775808 ≤ z) (h2 : z ≤ 9223372036854775807) : ref02_OfInt z = some (ofQ z) := by
  unfold ref02_OfInt
  have hof : ∀ n : Nat, n < 18446744073709551616 → r1Of (n : Int) = some (digs n) := fun n hn => by
    have : r1Of (n : Int) = some (digs ((n : Int).toNat)) := if_pos (by omega)
    rw [this, Int.toNat_natCast]
  have e : ofQ (z : Rat) = (decide (z < 0), digs z.natAbs, [1]) := by
    show (decide (z < 0), digs z.natAbs, digs 1) = _
    rw [one_digs]
  by_cases h : z < 0
  · rw [if_pos h, u64_neg h h1, hof _ (by omega), ref2One_eq, e]; rfl
  · rw [if_neg h, u64_nn (by omega) h2, hof _ (by omega), ref2One_eq, e]; rfl
end Go.FL
/-
  GP: glyphref02: comparisons, copies, texts.
-/
namespace Go.FL
open Go Go.Proofs

def ref02_Print (a0 : RT) : Option (ByteArray) := ((ref2Right a0).bind fun x1 => (if x1 = true then ((r1Print a0.2.1).bind fun x2 => (if a0.1 = true then ((sap? (⟨#[194, 175]⟩ : ByteArray) x2).bind fun x3 => (ref2One.bind fun x4 => ((r1Same a0.2.2 x4).bind fun x5 => (if x5 = true then (some (x3)) else ((r1Print a0.2.2).bind fun x6 => ((sap? (⟨#[114]⟩ : ByteArray) x6).bind fun x7 => ((sap? x3 x7).bind fun x8 => (some (x8))))))))) else (ref2One.bind fun x9 => ((r1Same a0.2.2 x9).bind fun x10 => (if x10 = true then (some (x2)) else ((r1Print a0.2.2).bind fun x11 => ((sap? (⟨#[114]⟩ : ByteArray) x11).bind fun x12 => ((sap? x2 x12).bind fun x13 => (some (x13)))))))))) else (some ((⟨#[]⟩ : ByteArray)))))
theorem ref02_Print_ok {a0 : RT} {r : ByteArray} (h : ref02_Print a0 = some r) :
    Fn Try.prog 111 [.ag [.b a0.1, .sl (L a0.2.1), .sl (L a0.2.2)]] (.d (.s r)) := by
  unfold ref02_Print at h
  refine Fn.of (rs := [.tmp 2]) (nt := 26) Try.func111 rfl rfl rfl (by simp) rfl ?_
  refine .seq ?_
  refine .region ?_
  refine vk (vbx) ?_
  refine asd ?_
  refine rn ?_
  refine .gh (Gh.keep [1, 2] rfl) ?_
  refine .seq ?_
  refine .seq ?_
  refine .region ?_
  refine vk (vlda gA_R gS_R) ?_
  obtain ⟨x1, hx1, h⟩ := bnd h
  refine vk (vcl0 (ref2Right_ok hx1) Try.call38) ?_
  refine vk (vnt) ?_
  refine rn ?_
  refine .gh (Gh.keep [1, 2, 6] rfl) ?_
  by_cases hc : x1 = true
  · replace h := ite_t hc h
    refine cnf (ntf hc) ?_
    refine .skip ?_
    show AW _ _ _ _ _ _
    refine .seq ?_
    refine .region ?_
    refine vk (vfa gF_R_1) ?_
    refine vk (vldp ga_L) ?_
    obtain ⟨x2, hx2, h⟩ := bnd h
    refine vk (vcl0 (r1Print_ok hx2) Try.call137) ?_
    refine asd ?_
    refine rn ?_
    refine .gh (Gh.keep [1, 2, 3] rfl) ?_
    refine .seq ?_
    refine .seq ?_
    refine .region ?_
    refine vk (vfa gF_R_0) ?_
    refine vk (vldp ga_bool) ?_
    refine rn ?_
    refine .gh (Gh.keep [1, 2, 3, 11] rfl) ?_
    by_cases hc : a0.1 = true
    · replace h := ite_t hc h
      refine cnt hc ?_
      refine .region ?_
      refine vk (vmvd) ?_
      obtain ⟨x3, hx3, h⟩ := bnd h
      refine vk (vsa hx3) ?_
      refine asd ?_
      refine rn ?_
      refine .gh (Gh.keep [1, 2, 3] rfl) ?_
      refine .seq ?_
      refine .seq ?_
      refine .drawn 5 mixed (by kernel_rfl) ?_
      refine dv (vfa gF_R_2) ?_
      refine dv (vldp ga_L) ?_
      obtain ⟨x4, hx4, h⟩ := bnd h
      refine dv ((vcl0 (ref2One_ok hx4) Try.call83).deep) ?_
      obtain ⟨x5, hx5, h⟩ := bnd h
      refine dv (vcl0 (r1Same_ok hx5) Try.call130) ?_
      refine dv (vnt) ?_
      refine dz ?_
      refine rn ?_
      refine .gh (Gh.keep [1, 2, 3, 18] rfl) ?_
      by_cases hc : x5 = true
      · replace h := ite_t hc h
        refine cnf (ntf hc) ?_
        refine .skip ?_
        show AW _ _ _ _ _ _
        refine .seq ?_
        refine .region ?_
        refine vk (vmvd) ?_
        refine asd ?_
        refine rn ?_
        refine .gh (Gh.keep [2] rfl) ?_
        refine .ret ?_
        cases h
        exact ⟨rfl, rfl⟩
      replace h := ite_f hc h
      refine cnt (ntt (bf hc)) ?_
      refine .region ?_
      refine vk (vmvd) ?_
      refine vk (vfa gF_R_2) ?_
      refine vk (vldp ga_L) ?_
      obtain ⟨x6, hx6, h⟩ := bnd h
      refine vk (vcl0 (r1Print_ok hx6) Try.call137) ?_
      obtain ⟨x7, hx7, h⟩ := bnd h
      refine vk (vsa hx7) ?_
      obtain ⟨x8, hx8, h⟩ := bnd h
      refine vk (vsa hx8) ?_
      refine asd ?_
      refine rn ?_
      refine .gh (Gh.keep [2, 3] rfl) ?_
      refine .seq ?_
      refine .region ?_
      refine vk (vmvd) ?_
      refine asd ?_
      refine rn ?_
      refine .gh (Gh.keep [2] rfl) ?_
      refine .ret ?_
      cases h
      exact ⟨rfl, rfl⟩
    replace h := ite_f hc h
    refine cnf (bf hc) ?_
    refine .skip ?_
    show AW _ _ _ _ _ _
    refine .seq ?_
    refine .seq ?_
    refine .drawn 5 mixed (by kernel_rfl) ?_
    refine dv (vfa gF_R_2) ?_
    refine dv (vldp ga_L) ?_
    obtain ⟨x9, hx9, h⟩ := bnd h
    refine dv ((vcl0 (ref2One_ok hx9) Try.call83).deep) ?_
    obtain ⟨x10, hx10, h⟩ := bnd h
    refine dv (vcl0 (r1Same_ok hx10) Try.call130) ?_
    refine dv (vnt) ?_
    refine dz ?_
    refine rn ?_
    refine .gh (Gh.keep [1, 2, 3, 18] rfl) ?_
    by_cases hc : x10 = true
    · replace h := ite_t hc h
      refine cnf (ntf hc) ?_
      refine .skip ?_
      show AW _ _ _ _ _ _
      refine .seq ?_
      refine .region ?_
      refine vk (vmvd) ?_
      refine asd ?_
      refine rn ?_
      refine .gh (Gh.keep [2] rfl) ?_
      refine .ret ?_
      cases h
      exact ⟨rfl, rfl⟩
    replace h := ite_f hc h
    refine cnt (ntt (bf hc)) ?_
    refine .region ?_
    refine vk (vmvd) ?_
    refine vk (vfa gF_R_2) ?_
    refine vk (vldp ga_L) ?_
    obtain ⟨x11, hx11, h⟩ := bnd h
    refine vk (vcl0 (r1Print_ok hx11) Try.call137) ?_
    obtain ⟨x12, hx12, h⟩ := bnd h
    refine vk (vsa hx12) ?_
    obtain ⟨x13, hx13, h⟩ := bnd h
    refine vk (vsa hx13) ?_
    refine asd ?_
    refine rn ?_
    refine .gh (Gh.keep [2, 3] rfl) ?_
    refine .seq ?_
    refine .region ?_
    refine vk (vmvd) ?_
    refine asd ?_
    refine rn ?_
    refine .gh (Gh.keep [2] rfl) ?_
    refine .ret ?_
    cases h
    exact ⟨rfl, rfl⟩
  replace h := ite_f hc h
  refine cnt (ntt (bf hc)) ?_
  refine .seq ?_
  refine .region ?_
  refine asd ?_
  refine rn ?_
  refine .gh (Gh.keep [1, 2] rfl) ?_
  refine .ret ?_
  cases h
  exact ⟨rfl, rfl⟩

end Go.FL
/-
  GP: glyphref02: comparison by a tolerance.
-/
namespace Go.FL
open Go Go.Proofs

end Go.FL
/-
  Plain facts of texts: a text cut at its first point or r, character by character.
-/
namespace Go.FL
open Go Go.Proofs

/-- v is u with what is beyond ASCII written anew. -/
inductive Enc : List Nat → List Nat → Prop
  | nil : Enc [] []
  | one {b : Nat} {u v : List Nat} (h : b < 128) (r : Enc u v) : Enc (b :: u) (b :: v)
  | big {h e u v : List Nat} (h1 : h ≠ []) (h2 : e ≠ []) (h3 : ∀ x ∈ h, 128 ≤ x) (h4 : ∀ x ∈ e, 128 ≤ x) (h5 : e.length ≤ 4) (r : Enc u v) : Enc (h ++ u) (e ++ v)
theorem pv_bad {c : Nat} {r : List Nat} {n : Nat} (h : 128 ≤ c) : pv (c :: r) n = none := by
  simp only [pv]; rw [if_neg (by omega)]
theorem Enc.pv {u v : List Nat} (h : Enc u v) : ∀ n, pv u n = pv v n := by
  induction h with
  | nil => exact fun _ => rfl
  | one hb _ ih =>
    intro n
    simp only [Go.FL.pv, ih]
  | @big h e u v h1 h2 h3 h4 _ _ _ =>
    intro n
    match h, h1 with
    | x :: h, _ =>
      match e, h2 with
      | y :: e, _ => rw [List.cons_append, List.cons_append, pv_bad (h3 x (by simp)), pv_bad (h4 y (by simp))]
theorem Enc.empty {u v : List Nat} (h : Enc u v) : u.isEmpty = v.isEmpty := by
  cases h with
  | nil => rfl
  | one => rfl
  | @big h e u v h1 h2 _ _ _ _ =>
    match h, h1, e, h2 with
    | x :: h, _, y :: e, _ => rfl
theorem Enc.len {u v : List Nat} (h : Enc u v) : v.length ≤ 4 * u.length := by
  induction h with
  | nil => exact Nat.zero_le _
  | one _ _ ih => simp only [List.length_cons]; omega
  | big h1 _ _ _ h5 _ ih =>
    have := List.length_pos_iff.2 h1
    simp only [List.length_append]; omega
theorem sap_ok {a b : ByteArray} (h : (byts a).length + (byts b).length ≤ 100000) : sap? a b = some (a ++ b) := by
  rw [byts_length, byts_length] at h
  exact if_pos (Nat.le_trans h (by decide))
/-- What is left behind the sign. -/
def sgnB (u : List Nat) : Bool := decide (u.take 2 = [194, 175])
def behind (u : List Nat) : List Nat := if sgnB u = true then u.drop 2 else u
end Go.FL
/-
  A FUNCTIONAL LOGIC, 40: what the library's own contracts say, as contracts here.
-/
namespace Go.FL
open Go Go.RowKit Go.ChangeShapes

theorem Fn.of_calls {P : Program} {f : FuncId} {args : List DV} {r : DV} {v : Value} (hr : ∀ w I, Rep w I r v) (h : ∀ (w : World) (I : Nat → Prop) (vs : List Value), RepAll w I args vs → Calls P f vs.toArray w fun e w' => e = .returned v ∧ Below w.heap.size w w') : Fn P f args (.d r) := by
  intro w I vs hI ha
  rw [om_none]
  refine callsIn_wide.2 ((h w I vs ha).mono fun e w' ⟨he, hb⟩ => ?_)
  exact ⟨v, I, [], he, hb, fun _ h => h, fun b hb' => ⟨Nat.lt_of_lt_of_le (hI b hb') hb.size, fun _ => hb'⟩, .d (hr w' I), List.nodup_nil, fun b hb' => by cases hb'⟩
end Go.FL
/-
  Facts of this program for the kit's contract of strings.Repeat, as the kit's tool wrote them (numbers are of the seat of Array* and Report*).
-/

namespace Go.Proofs
open Go.Shelf
def Try.laysRepeat_ren : Go.Shelf.Ren := ⟨fun | 105 => 72 | 212 => 104 | 99 => 105 | 165 => 106 | 166 => 107 | 170 => 108 | 169 => 109 | 263 => 131 | 264 => 132 | 206 => 133 | 240 => 134 | 241 => 135 | 276 => 145 | 277 => 146 | n => n, fun | 9 => 9 | 3 => 3 | 4 => 4 | 20 => 20 | 0 => 0 | 46 => 126 | 109 => 128 | 5 => 5 | 72 => 134 | 76 => 138 | 51 => 125 | 146 => 157 | 53 => 120 | 148 => 159 | 70 => 131 | 37 => 132 | 75 => 137 | 127 => 161 | 164 => 168 | 80 => 141 | n => n, fun | n => n⟩
theorem Try.laysRepeat : Go.Proofs.Lays.n105 Try.prog Try.laysRepeat_ren := {
  mixed := by kernel_rfl
  f99 := Try.func105.trans (congrArg some (by kernel_rfl))
  f105 := Try.func72.trans (congrArg some (by kernel_rfl))
  f165 := Try.func106.trans (congrArg some (by kernel_rfl))
  f166 := Try.func107.trans (congrArg some (by kernel_rfl))
  f169 := Try.func109.trans (congrArg some (by kernel_rfl))
  f170 := Try.func108.trans (congrArg some (by kernel_rfl))
  f206 := Try.func133.trans (congrArg some (by kernel_rfl))
  f212 := Try.func104.trans (congrArg some (by kernel_rfl))
  f240 := Try.func134.trans (congrArg some (by kernel_rfl))
  f241 := Try.func135.trans (congrArg some (by kernel_rfl))
  f263 := Try.func131.trans (congrArg some (by kernel_rfl))
  f264 := Try.func132.trans (congrArg some (by kernel_rfl))
  f276 := Try.func145.trans (congrArg some (by kernel_rfl))
  f277 := Try.func146.trans (congrArg some (by kernel_rfl))
  t0 := Try.underlying0
  a0 := Try.isAgg0
  z0 := Try.sizeOf0
  v0 := Try.zeroValue0
  t3 := Try.underlying3
  a3 := Try.isAgg3
  z3 := Try.sizeOf3
  v3 := Try.zeroValue3
  t4 := Try.underlying4
  a4 := Try.isAgg4
  z4 := Try.sizeOf4
  v4 := Try.zeroValue4
  t5 := Try.underlying5
  a5 := Try.isAgg5
  z5 := Try.sizeOf5
  v5 := Try.zeroValue5
  t9 := Try.underlying9
  a9 := Try.isAgg9
  z9 := Try.sizeOf9
  v9 := Try.zeroValue9
  t20 := Try.underlying20
  a20 := Try.isAgg20
  z20 := Try.sizeOf20
  v20 := Try.zeroValue20
  t37 := Try.underlying132
  a37 := Try.isAgg132
  z37 := Try.sizeOf132
  v37 := Try.zeroValue132
  t46 := Try.underlying126
  a46 := Try.isAgg126
  z46 := Try.sizeOf126
  v46 := Try.zeroValue126
  t51 := Try.underlying125
  a51 := Try.isAgg125
  z51 := Try.sizeOf125
  v51 := Try.zeroValue125
  t53 := Try.underlying120
  a53 := Try.isAgg120
  z53 := Try.sizeOf120
  v53 := Try.zeroValue120
  t70 := Try.underlying131
  a70 := Try.isAgg131
  z70 := Try.sizeOf131
  v70 := Try.zeroValue131
  t72 := Try.underlying134
  a72 := Try.isAgg134
  z72 := Try.sizeOf134
  v72 := Try.zeroValue134
  t75 := Try.underlying137
  a75 := Try.isAgg137
  z75 := Try.sizeOf137
  v75 := Try.zeroValue137
  t76 := Try.underlying138
  a76 := Try.isAgg138
  z76 := Try.sizeOf138
  v76 := Try.zeroValue138
  t109 := Try.underlying128
  a109 := Try.isAgg128
  z109 := Try.sizeOf128
  v109 := Try.zeroValue128
  t127 := Try.underlying161
  a127 := Try.isAgg161
  z127 := Try.sizeOf161
  v127 := Try.zeroValue161
  t146 := Try.underlying157
  a146 := Try.isAgg157
  z146 := Try.sizeOf157
  v146 := Try.zeroValue157
  t148 := Try.underlying159
  a148 := Try.isAgg159
  z148 := Try.sizeOf159
  v148 := Try.zeroValue159
  t164 := Try.underlying168
  a164 := Try.isAgg168
  z164 := Try.sizeOf168
  v164 := Try.zeroValue168 }
end Go.Proofs
