/-
  Part 4 of the base of the proofs: a logic of our own over the calculus, the contracts of the functions
-/
import Derived.Test.YtbeekjoeaigngaaGreatScC
set_option linter.unusedVariables false
/-
  rat, glyphref02: Right; slices.Equal, IndexFunc, ContainsFunc; right.
-/
namespace Go.FL
open Go Go.Proofs

theorem slR : sliceT Tryz.prog 180 = some (32, 3, 56) := by kernel_rfl
theorem lR : Tryz.prog.underlying 180 = some (.slice (Tryz.prog.elem 180)) := by kernel_rfl

theorem refOne_fn : Fn Tryz.prog 44 [] (.own 121 (L [1])) := by
  refine Fn.of (rs := [.tmp 0]) (nt := 2) Tryz.func44 rfl rfl rfl (by simp) rfl ?_; refine .seq ?_; refine .region ?_; refine asn ?_; refine rn ?_; refine .seq ?_; refine .region ?_
  refine bsl ?_ ?_ e32
  · simp [DV.flat, DV.cells, DV.leaf]
  refine aso ?_; refine rn ?_; refine .ret ?_
  exact ⟨rfl, rfl⟩

theorem Equal_fn (a b : List Nat) (hla : a.length ≤ 1048576) (hoa : Ok a) (hob : Ok b) : Fn Tryz.prog 112 [.sl (L a), .sl (L b)] (.d (.b (decide (a = b)))) := by
  refine Fn.of (rs := [.tmp 4]) (nt := 26) Tryz.func112 rfl rfl rfl (by simp) rfl ?_; refine .seq ?_; refine .region ?_; refine asd ?_; refine rn ?_; refine .seq ?_; refine .seq ?_; refine .region ?_; refine mvd ?_
  refine ln ?_ (L_sz _) l32
  refine mvd ?_
  refine ln ?_ (L_sz _) l32
  refine bi ?_; refine rn ?_
  by_cases hlen : a.length ≠ b.length
  · rw [decide_eq_false (show ¬ (((L a).length : Nat) : Int) = ((L b).length : Nat) by rw [L_length, L_length]; omega)]
    refine cndt ?_; refine .seq ?_; refine .region ?_; refine asd ?_; refine rn ?_; refine .ret ?_
    exact ⟨by rw [decide_eq_false (fun h => hlen (by rw [h]))]; rfl, rfl⟩
  rw [decide_eq_true (show (((L a).length : Nat) : Int) = ((L b).length : Nat) by rw [L_length, L_length]; omega)]
  refine cndf ?_; refine .skip ?_
  show AW _ _ _ _ _ _
  refine .seq ?_; refine .seq ?_; refine .region ?_; refine mvd ?_
  refine ln ?_ (L_sz _) l32
  refine mvd ?_; refine rn ?_; refine .block ?_
  refine .loop (.gh (Gh.keep [0, 1, 11, 12, 13] rfl) ?_)
  refine AL.ind (σ := Nat) (m := fun i => a.length - i) (e := fun i => [(0, .d (.sl (L a))), (1, .d (.sl (L b))), (11, .d (.sl (L a))), (12, .d (.i .i64 ((L a).length : Nat))), (13, .d (.i .i64 (i : Int)))]) (h := fun _ => [])
    (I := fun i => i ≤ a.length ∧ a.take i = b.take i) ?_ 0 ⟨Nat.zero_le _, rfl⟩
  rintro i ⟨h1, h2⟩ ih
  refine .seq ?_; refine .region ?_; refine bi ?_; refine rn ?_; refine .seq ?_
  by_cases hi : i < a.length
  · rw [decide_eq_true (show (i : Int) < ((L a).length : Nat) by rw [L_length]; omega)]
    have hx : a[i]? = some a[i] := List.getElem?_eq_getElem hi
    have hy : b[i]? = some b[i] := List.getElem?_eq_getElem (by omega)
    have hdx : a.take (i + 1) = a.take i ++ [a[i]] := List.take_succ_eq_append_getElem hi
    have hdy : b.take (i + 1) = b.take i ++ [b[i]] := List.take_succ_eq_append_getElem (by omega)
    generalize a[i] = x at hx hdx
    generalize b[i] = y at hy hdy
    refine cndt ?_; refine .skip ?_
    show AW _ _ _ _ _ _
    refine .seq ?_; refine .block ?_; refine .seq ?_; refine .region ?_; refine mvd ?_; refine asd ?_; refine rn ?_; refine .seq ?_; refine .drawn 9 mixed (by kernel_rfl) ?_; refine dv vmvd ?_; refine dv vmvd ?_; refine dv (vix i rfl (L_at hx) rfl s32) ?_; refine dv (vldp a32) ?_; refine dv vmvd ?_; refine dv vmvd ?_; refine dv (vix i rfl (L_at hy) rfl s32) ?_; refine dv (vldp a32) ?_; refine dv vbi ?_; refine dz ?_; refine rn ?_
    by_cases hxy : x ≠ y
    · rw [decide_eq_false (show ¬ (x : Int) = (y : Int) by omega)]
      refine cndt ?_; refine .seq ?_; refine .region ?_; refine asd ?_; refine rn ?_; refine .ret ?_
      exact ⟨by rw [decide_eq_false (fun h => hxy (by rw [h] at hx; rw [hx] at hy; exact Option.some.inj hy))]; rfl, rfl⟩
    rw [decide_eq_true (show (x : Int) = (y : Int) by omega)]
    refine cndf ?_; refine .skip ?_
    show AW _ _ _ _ _ _
    refine .region ?_; refine ad ((i + 1 : Nat) : Int) ?_ ?_
    · omega
    refine mvd ?_; refine .nil ?_; refine AL.gh (Gh.keep [0, 1, 11, 12, 13] rfl) ?_
    exact ih (i + 1) ⟨by omega, by rw [hdx, hdy, h2]; congr 2; omega⟩ (by omega)
  rw [decide_eq_false (show ¬ (i : Int) < ((L a).length : Nat) by rw [L_length]; omega)]
  refine cndf ?_; refine .exit ?_
  show AW _ _ _ _ _ _
  refine .seq ?_; refine .region ?_; refine asd ?_; refine rn ?_; refine .ret ?_
  rw [List.take_of_length_le (by omega), List.take_of_length_le (by omega)] at h2
  exact ⟨by rw [decide_eq_true h2]; rfl, rfl⟩

def RightP (b : Bool) (n d : List Nat) : Prop := digs (val n) = n ∧ digs (val d) = d ∧ n.length ≤ 32 ∧ d.length ≤ 32 ∧ d ≠ [] ∧ (n = [] → b = false) ∧ Nat.gcd (val n) (val d) = 1
instance (b : Bool) (n d : List Nat) : Decidable (RightP b n d) := by unfold RightP; infer_instance
def rightL (b : Bool) (n d : List Nat) : Bool := decide (RightP b n d)
theorem right_f {b : Bool} {n d : List Nat} (h : ¬ RightP b n d) : rightL b n d = false := decide_eq_false h
theorem digs_one_iff {g : Nat} : digs g = [1] ↔ g = 1 := by
  have one : digs 1 = [1] := one_limb (n := 1) (by decide) (by decide)
  constructor
  · intro h
    have := val_digs g
    rw [h] at this
    simpa [val] using this.symm
  · rintro rfl; exact one
theorem ne_nil_pos {l : List Nat} : l ≠ [] ↔ 0 < l.length := by
  cases l <;> simp

theorem RRight_fn {b : Bool} {n d : List Nat} (hn : Ok n) (hd : Ok d) (hln : n.length ≤ 35184372087808) (hld : d.length ≤ 35184372087808) : Fn Tryz.prog 45 [Rv b n d] (.d (.b (rightL b n d))) := by
  refine Fn.of (rs := [.tmp 2]) (nt := 50) Tryz.func45 rfl rfl rfl (by simp) rfl ?_; refine .seq ?_; refine .region ?_; refine vk vbx ?_; refine asd ?_; refine rn ?_; refine .seq ?_; refine .seq ?_; refine .region ?_; refine vk (vfa fR1) ?_
  refine ldp ?_ aS
  refine cl (xs := [.sl (L n)]) ?_ (Right_fn hn hln) Tryz.call119
  refine nt_ ?_
  by_cases h1 : ¬ digs (val n) = n
  · rw [decide_eq_false h1]
    refine mvd ?_; refine gf ?_; refine gf ?_; refine gf ?_; refine gf ?_; refine pkd ?_; refine mvd ?_; refine gf ?_; refine gf ?_; refine gf ?_; refine gf ?_; refine pkd ?_; refine mvd ?_; refine gf ?_; refine gf ?_; refine gf ?_; refine gf ?_; refine pkd ?_; refine rn ?_; refine .gh (Gh.keep [1, 24] rfl) ?_; refine cndt ?_; refine .seq ?_; refine .region ?_; refine asd ?_; refine rn ?_; refine .ret ?_
    exact ⟨by rw [right_f (fun h => h1 h.1)]; rfl, rfl⟩
  rw [Decidable.not_not] at h1
  rw [decide_eq_true h1]
  refine mvd ?_; refine vk (vfa fR2) ?_
  refine ldp ?_ aS
  refine cl (xs := [.sl (L d)]) ?_ (Right_fn hd hld) Tryz.call119
  refine nt_ ?_
  by_cases h2 : ¬ digs (val d) = d
  · rw [decide_eq_false h2]
    refine pkd ?_; refine mvd ?_; refine gf ?_; refine gf ?_; refine gf ?_; refine gf ?_; refine pkd ?_; refine mvd ?_; refine gf ?_; refine gf ?_; refine gf ?_; refine gf ?_; refine pkd ?_; refine rn ?_; refine .gh (Gh.keep [1, 24] rfl) ?_; refine cndt ?_; refine .seq ?_; refine .region ?_; refine asd ?_; refine rn ?_; refine .ret ?_
    exact ⟨by rw [right_f (fun h => h2 h.2.1)]; rfl, rfl⟩
  rw [Decidable.not_not] at h2
  rw [decide_eq_true h2]
  refine pkd ?_; refine mvd ?_; refine vk (vfa fR1) ?_
  refine ldp ?_ aS
  refine ln ?_ (L_sz _) l32
  refine bi ?_
  by_cases h3 : 32 < n.length
  · rw [decide_eq_true (show (32 : Int) < ((L n).length : Nat) by rw [L_length]; omega)]
    refine pkd ?_; refine mvd ?_; refine gf ?_; refine gf ?_; refine gf ?_; refine gf ?_; refine pkd ?_; refine rn ?_; refine .gh (Gh.keep [1, 24] rfl) ?_; refine cndt ?_; refine .seq ?_; refine .region ?_; refine asd ?_; refine rn ?_; refine .ret ?_
    exact ⟨by rw [right_f (fun h => by have := h.2.2.1; omega)]; rfl, rfl⟩
  rw [decide_eq_false (show ¬ (32 : Int) < ((L n).length : Nat) by rw [L_length]; omega)]
  refine pkd ?_; refine mvd ?_; refine vk (vfa fR2) ?_
  refine ldp ?_ aS
  refine ln ?_ (L_sz _) l32
  refine bi ?_
  by_cases h4 : 32 < d.length
  · rw [decide_eq_true (show (32 : Int) < ((L d).length : Nat) by rw [L_length]; omega)]
    refine pkd ?_; refine rn ?_; refine .gh (Gh.keep [1, 24] rfl) ?_; refine cndt ?_; refine .seq ?_; refine .region ?_; refine asd ?_; refine rn ?_; refine .ret ?_
    exact ⟨by rw [right_f (fun h => by have := h.2.2.2.1; omega)]; rfl, rfl⟩
  rw [decide_eq_false (show ¬ (32 : Int) < ((L d).length : Nat) by rw [L_length]; omega)]
  have g1 := Gcd_fn (M := 32) (ls := [n, d]) (by simp [hn, hd]) (by simp; omega) (by simp) (by decide)
  rw [show gcdF [n, d] = Nat.gcd (val n) (val d) by show Nat.gcd (Nat.gcd 0 (val n)) (val d) = _; rw [Nat.gcd_zero_left]] at g1
  have lg : (digs (Nat.gcd (val n) (val d))).length ≤ 32 := digs_len (gcd_lt (Nat.lt_of_lt_of_le (val_lt hn) (Nat.pow_le_pow_right (by decide) (by omega))) (Nat.lt_of_lt_of_le (val_lt hd) (Nat.pow_le_pow_right (by decide) (by omega))))
  have q1 := Equal_fn (digs (Nat.gcd (val n) (val d))) [1] (by omega) (digs_ok _) (by simp [Ok])
  rw [decide_eq_decide.2 digs_one_iff] at q1
  refine pkd ?_; refine rn ?_; refine .gh (Gh.keep [1, 24] rfl) ?_; refine cndf ?_; refine .skip ?_
  show AW _ _ _ _ _ _
  refine .seq ?_; refine .region ?_; refine vk (vfa fR2) ?_
  refine ldp ?_ aS
  refine ln ?_ (L_sz _) l32
  refine bi ?_
  by_cases h5 : 0 < d.length
  · rw [decide_eq_true (show (0 : Int) < ((L d).length : Nat) by rw [L_length]; omega)]
    refine mvd ?_; refine vk (vfa fR1) ?_
    refine ldp ?_ aS
    refine ln ?_ (L_sz _) l32
    refine bi ?_
    by_cases h6 : 0 < n.length
    · rw [decide_eq_true (show (0 : Int) < ((L n).length : Nat) by rw [L_length]; omega)]
      refine mvd ?_; refine gf ?_; refine gf ?_; refine gf ?_; refine pkd ?_; refine pkd ?_; refine mvd ?_; refine vk (vfa fR1) ?_
      refine ldp ?_ aS
      refine vk (vfa fR2) ?_
      refine ldp ?_ aS
      refine bsl ?_ ?_ e2
      · simp [DV.flat, DV.cells, DV.leaf]
      refine fz (p := .t 45) ?_
      refine cl (xs := [.sl (LL [n, d])]) ?_ g1 Tryz.call120
      refine cl (xs := []) ?_ one_fn Tryz.call121
      refine fz (p := .t 47) ?_
      refine cl (xs := [.sl (L (digs (Nat.gcd (val n) (val d)))), .sl (L [1])]) ?_ q1 Tryz.call112
      refine pkd ?_; refine asd ?_; refine rn ?_; refine .ret ?_
      exact ⟨by rw [show rightL b n d = decide (Nat.gcd (val n) (val d) = 1) from decide_eq_decide.2 ⟨fun h => h.2.2.2.2.2.2, fun h => ⟨h1, h2, by omega, by omega, ne_nil_pos.2 h5, fun h0 => by rw [h0] at h6; simp at h6, h⟩⟩]; rfl, rfl⟩
    rw [decide_eq_false (show ¬ (0 : Int) < ((L n).length : Nat) by rw [L_length]; omega)]
    refine mvd ?_; refine vk (vfa fR0) ?_
    refine ldp ?_ aB
    refine nt_ ?_
    by_cases h7 : b = false
    · subst h7
      refine pkd ?_; refine pkd ?_; refine mvd ?_; refine vk (vfa fR1) ?_
      refine ldp ?_ aS
      refine vk (vfa fR2) ?_
      refine ldp ?_ aS
      refine bsl ?_ ?_ e2
      · simp [DV.flat, DV.cells, DV.leaf]
      refine fz (p := .t 45) ?_
      refine cl (xs := [.sl (LL [n, d])]) ?_ g1 Tryz.call120
      refine cl (xs := []) ?_ one_fn Tryz.call121
      refine fz (p := .t 47) ?_
      refine cl (xs := [.sl (L (digs (Nat.gcd (val n) (val d)))), .sl (L [1])]) ?_ q1 Tryz.call112
      refine pkd ?_; refine asd ?_; refine rn ?_; refine .ret ?_
      exact ⟨by rw [show rightL false n d = decide (Nat.gcd (val n) (val d) = 1) from decide_eq_decide.2 ⟨fun h => h.2.2.2.2.2.2, fun h => ⟨h1, h2, by omega, by omega, ne_nil_pos.2 h5, fun _ => rfl, h⟩⟩]; rfl, rfl⟩
    rw [Bool.not_eq_false] at h7; subst h7
    refine pkd ?_; refine pkd ?_; refine mvd ?_; refine gf ?_; refine gf ?_; refine gf ?_; refine gf ?_; refine gf ?_; refine gf ?_; refine gf ?_; refine gf ?_; refine pkd ?_; refine asd ?_; refine rn ?_; refine .ret ?_
    exact ⟨by rw [right_f (fun h => by have := h.2.2.2.2.2.1 (List.length_eq_zero_iff.1 (by omega)); cases this)]; rfl, rfl⟩
  rw [decide_eq_false (show ¬ (0 : Int) < ((L d).length : Nat) by rw [L_length]; omega)]
  refine mvd ?_; refine gf ?_; refine gf ?_; refine gf ?_; refine gf ?_; refine gfu ?_; refine gfn ?_; refine gfn ?_; refine gfn ?_; refine gf ?_; refine pkd ?_; refine mvd ?_; refine gf ?_; refine gf ?_; refine gf ?_; refine gf ?_; refine gf ?_; refine gf ?_; refine gf ?_; refine gf ?_; refine pkd ?_; refine asd ?_; refine rn ?_; refine .ret ?_
  exact ⟨by rw [right_f (fun h => h5 (ne_nil_pos.1 h.2.2.2.2.1))]; rfl, rfl⟩

theorem cmp_one {g : Nat} : (cmpN g 1 = 0) ↔ g = 1 := by
  unfold cmpN
  by_cases h : g < 1
  · rw [if_pos h]; omega
  · rw [if_neg h]; split <;> omega

theorem refRR_fn {b : Bool} {n d : List Nat} (hn : Ok n) (hd : Ok d) (hln : n.length ≤ 35184372087808) (hld : d.length ≤ 35184372087808) : Fn Tryz.prog 19 [Rv b n d] (.d (.b (rightL b n d))) := by
  refine Fn.of (rs := [.tmp 2]) (nt := 50) Tryz.func19 rfl rfl rfl (by simp) rfl ?_; refine .seq ?_; refine .region ?_; refine vk vbx ?_; refine asd ?_; refine rn ?_; refine .seq ?_; refine .seq ?_; refine .region ?_; refine vk (vfa fR1) ?_
  refine ldp ?_ aS
  refine cl (xs := [.sl (L n)]) ?_ (refRight_fn hn hln) Tryz.call41
  refine nt_ ?_
  by_cases h1 : ¬ digs (val n) = n
  · rw [decide_eq_false h1]
    refine mvd ?_; refine gf ?_; refine gf ?_; refine gf ?_; refine gf ?_; refine pkd ?_; refine mvd ?_; refine gf ?_; refine gf ?_; refine gf ?_; refine gf ?_; refine pkd ?_; refine mvd ?_; refine gf ?_; refine gf ?_; refine gf ?_; refine gf ?_; refine pkd ?_; refine mvd ?_; refine gf ?_; refine gf ?_; refine gf ?_; refine gf ?_; refine pkd ?_; refine mvd ?_; refine gf ?_; refine gf ?_; refine gf ?_; refine gf ?_; refine gfu ?_; refine gfn ?_; refine gfn ?_; refine gf ?_; refine pkd ?_; refine rn ?_; refine .gh (Gh.keep [1, 40] rfl) ?_; refine cndt ?_; refine .seq ?_; refine .region ?_; refine asd ?_; refine rn ?_; refine .ret ?_
    exact ⟨by rw [right_f (fun h => h1 h.1)]; rfl, rfl⟩
  rw [Decidable.not_not] at h1
  rw [decide_eq_true h1]
  refine mvd ?_; refine vk (vfa fR2) ?_
  refine ldp ?_ aS
  refine cl (xs := [.sl (L d)]) ?_ (refRight_fn hd hld) Tryz.call41
  refine nt_ ?_
  by_cases h2 : ¬ digs (val d) = d
  · rw [decide_eq_false h2]
    refine pkd ?_; refine mvd ?_; refine gf ?_; refine gf ?_; refine gf ?_; refine gf ?_; refine pkd ?_; refine mvd ?_; refine gf ?_; refine gf ?_; refine gf ?_; refine gf ?_; refine pkd ?_; refine mvd ?_; refine gf ?_; refine gf ?_; refine gf ?_; refine gf ?_; refine pkd ?_; refine mvd ?_; refine gf ?_; refine gf ?_; refine gf ?_; refine gf ?_; refine gfu ?_; refine gfn ?_; refine gfn ?_; refine gf ?_; refine pkd ?_; refine rn ?_; refine .gh (Gh.keep [1, 40] rfl) ?_; refine cndt ?_; refine .seq ?_; refine .region ?_; refine asd ?_; refine rn ?_; refine .ret ?_
    exact ⟨by rw [right_f (fun h => h2 h.2.1)]; rfl, rfl⟩
  rw [Decidable.not_not] at h2
  rw [decide_eq_true h2]
  refine pkd ?_; refine mvd ?_; refine vk (vfa fR2) ?_
  refine ldp ?_ aS
  refine ln ?_ (L_sz _) l32
  refine bi ?_
  by_cases h5 : d.length = 0
  · rw [decide_eq_true (show (((L d).length : Nat) : Int) = 0 by rw [L_length]; omega)]
    refine pkd ?_; refine mvd ?_; refine gf ?_; refine gf ?_; refine gf ?_; refine gf ?_; refine pkd ?_; refine mvd ?_; refine gf ?_; refine gf ?_; refine gf ?_; refine gf ?_; refine pkd ?_; refine mvd ?_; refine gf ?_; refine gf ?_; refine gf ?_; refine gf ?_; refine gfu ?_; refine gfn ?_; refine gfn ?_; refine gf ?_; refine pkd ?_; refine rn ?_; refine .gh (Gh.keep [1, 40] rfl) ?_; refine cndt ?_; refine .seq ?_; refine .region ?_; refine asd ?_; refine rn ?_; refine .ret ?_
    exact ⟨by rw [right_f (fun h => by have := ne_nil_pos.1 h.2.2.2.2.1; omega)]; rfl, rfl⟩
  rw [decide_eq_false (show ¬ (((L d).length : Nat) : Int) = 0 by rw [L_length]; omega)]
  refine pkd ?_; refine mvd ?_; refine vk (vfa fR1) ?_
  refine ldp ?_ aS
  refine ln ?_ (L_sz _) l32
  refine bi ?_
  by_cases h3 : 32 < n.length
  · rw [decide_eq_true (show (32 : Int) < ((L n).length : Nat) by rw [L_length]; omega)]
    refine pkd ?_; refine mvd ?_; refine gf ?_; refine gf ?_; refine gf ?_; refine gf ?_; refine pkd ?_; refine mvd ?_; refine gf ?_; refine gf ?_; refine gf ?_; refine gf ?_; refine gfu ?_; refine gfn ?_; refine gfn ?_; refine gf ?_; refine pkd ?_; refine rn ?_; refine .gh (Gh.keep [1, 40] rfl) ?_; refine cndt ?_; refine .seq ?_; refine .region ?_; refine asd ?_; refine rn ?_; refine .ret ?_
    exact ⟨by rw [right_f (fun h => by have := h.2.2.1; omega)]; rfl, rfl⟩
  rw [decide_eq_false (show ¬ (32 : Int) < ((L n).length : Nat) by rw [L_length]; omega)]
  refine pkd ?_; refine mvd ?_; refine vk (vfa fR2) ?_
  refine ldp ?_ aS
  refine ln ?_ (L_sz _) l32
  refine bi ?_
  by_cases h4 : 32 < d.length
  · rw [decide_eq_true (show (32 : Int) < ((L d).length : Nat) by rw [L_length]; omega)]
    refine pkd ?_; refine mvd ?_; refine gf ?_; refine gf ?_; refine gf ?_; refine gf ?_; refine gfu ?_; refine gfn ?_; refine gfn ?_; refine gf ?_; refine pkd ?_; refine rn ?_; refine .gh (Gh.keep [1, 40] rfl) ?_; refine cndt ?_; refine .seq ?_; refine .region ?_; refine asd ?_; refine rn ?_; refine .ret ?_
    exact ⟨by rw [right_f (fun h => by have := h.2.2.2.1; omega)]; rfl, rfl⟩
  rw [decide_eq_false (show ¬ (32 : Int) < ((L d).length : Nat) by rw [L_length]; omega)]
  have g1 := refGcd_fn (M := 32) (ls := [n, d]) (by simp [hn, hd]) (by simp; omega) (by simp) (by decide)
  rw [show gcdF [n, d] = Nat.gcd (val n) (val d) by show Nat.gcd (Nat.gcd 0 (val n)) (val d) = _; rw [Nat.gcd_zero_left]] at g1
  have lg : (digs (Nat.gcd (val n) (val d))).length ≤ 32 := digs_len (gcd_lt (Nat.lt_of_lt_of_le (val_lt hn) (Nat.pow_le_pow_right (by decide) (by omega))) (Nat.lt_of_lt_of_le (val_lt hd) (Nat.pow_le_pow_right (by decide) (by omega))))
  have q1 := refCompare_fn (a := digs (Nat.gcd (val n) (val d))) (b := [1]) (digs_ok _) (by simp [Ok]) (by omega) (by simp)
  rw [val_digs, show val [1] = 1 from rfl] at q1
  refine pkd ?_; refine mvd ?_; refine vk (vfa fR1) ?_
  refine ldp ?_ aS
  refine ln ?_ (L_sz _) l32
  refine bi ?_
  by_cases h6 : n.length = 0
  · rw [decide_eq_true (show (((L n).length : Nat) : Int) = 0 by rw [L_length]; omega)]
    refine mvd ?_; refine vk (vfa fR0) ?_
    refine ldp ?_ aB
    by_cases h7 : b = true
    · subst h7
      refine pkd ?_; refine pkd ?_; refine rn ?_; refine .gh (Gh.keep [1, 40] rfl) ?_; refine cndt ?_; refine .seq ?_; refine .region ?_; refine asd ?_; refine rn ?_; refine .ret ?_
      exact ⟨by rw [right_f (fun h => by have := h.2.2.2.2.2.1 (List.length_eq_zero_iff.1 (by omega)); cases this)]; rfl, rfl⟩
    rw [Bool.not_eq_true] at h7; subst h7
    refine pkd ?_; refine pkd ?_; refine rn ?_; refine .gh (Gh.keep [1, 40] rfl) ?_; refine cndf ?_; refine .skip ?_
    show AW _ _ _ _ _ _
    refine .seq ?_; refine .region ?_; refine vk (vfa fR1) ?_
    refine ldp ?_ aS
    refine vk (vfa fR2) ?_
    refine ldp ?_ aS
    refine bsl ?_ ?_ e2
    · simp [DV.flat, DV.cells, DV.leaf]
    refine fz (p := .t 45) ?_
    refine cl (xs := [.sl (LL [n, d])]) ?_ g1 Tryz.call43
    refine cl (xs := []) ?_ refOne_fn Tryz.call44
    refine fz (p := .t 47) ?_
    refine cl (xs := [.sl (L (digs (Nat.gcd (val n) (val d)))), .sl (L [1])]) ?_ q1 Tryz.call42
    refine bi ?_; refine asd ?_; refine rn ?_; refine .ret ?_
    exact ⟨by rw [show rightL false n d = decide (cmpN (Nat.gcd (val n) (val d)) 1 = 0) from decide_eq_decide.2 ⟨fun h => cmp_one.2 h.2.2.2.2.2.2, fun h => ⟨h1, h2, by omega, by omega, ne_nil_pos.2 (by omega), fun _ => rfl, cmp_one.1 h⟩⟩]; rfl, rfl⟩
  rw [decide_eq_false (show ¬ (((L n).length : Nat) : Int) = 0 by rw [L_length]; omega)]
  refine mvd ?_; refine gf ?_; refine gf ?_; refine pkd ?_; refine pkd ?_; refine rn ?_; refine .gh (Gh.keep [1, 40] rfl) ?_; refine cndf ?_; refine .skip ?_
  show AW _ _ _ _ _ _
  refine .seq ?_; refine .region ?_; refine vk (vfa fR1) ?_
  refine ldp ?_ aS
  refine vk (vfa fR2) ?_
  refine ldp ?_ aS
  refine bsl ?_ ?_ e2
  · simp [DV.flat, DV.cells, DV.leaf]
  refine fz (p := .t 45) ?_
  refine cl (xs := [.sl (LL [n, d])]) ?_ g1 Tryz.call43
  refine cl (xs := []) ?_ refOne_fn Tryz.call44
  refine fz (p := .t 47) ?_
  refine cl (xs := [.sl (L (digs (Nat.gcd (val n) (val d)))), .sl (L [1])]) ?_ q1 Tryz.call42
  refine bi ?_; refine asd ?_; refine rn ?_; refine .ret ?_
  exact ⟨by rw [show rightL b n d = decide (cmpN (Nat.gcd (val n) (val d)) 1 = 0) from decide_eq_decide.2 ⟨fun h => cmp_one.2 h.2.2.2.2.2.2, fun h => ⟨h1, h2, by omega, by omega, ne_nil_pos.2 (by omega), fun h0 => by rw [h0] at h6; simp at h6, cmp_one.1 h⟩⟩]; rfl, rfl⟩

abbrev RT := Bool × List Nat × List Nat
def RVs (rs : List RT) : List DV := rs.map fun r => Rv r.1 r.2.1 r.2.2
def okR (r : RT) : Prop := Ok r.2.1 ∧ Ok r.2.2 ∧ r.2.1.length ≤ 35184372087808 ∧ r.2.2.length ≤ 35184372087808
def rightR (r : RT) : Bool := rightL r.1 r.2.1 r.2.2
def idxZ : Option Nat → Int
  | some i => i
  | none => -1
theorem RVs_length (rs : List RT) : (RVs rs).length = rs.length := by simp [RVs]
theorem RVs_sz (rs : List RT) : ∃ sz, ∀ x ∈ RVs rs, x.cells.length = sz := ⟨3, fun x hx => by
  simp only [RVs, List.mem_map] at hx
  obtain ⟨n, _, rfl⟩ := hx; rfl⟩
theorem RVs_at {rs : List RT} {i : Nat} {r : RT} (h : rs[i]? = some r) : (RVs rs)[i]? = some (Rv r.1 r.2.1 r.2.2) := by simp [RVs, h]

theorem notRight_fn {b : Bool} {n d : List Nat} (hn : Ok n) (hd : Ok d) (hln : n.length ≤ 35184372087808) (hld : d.length ≤ 35184372087808) : Fn Tryz.prog 222 [Rv b n d] (.d (.b (!rightL b n d))) := by
  refine Fn.of (rs := [.tmp 2]) (nt := 6) Tryz.func222 rfl rfl rfl (by simp) rfl ?_; refine .seq ?_; refine .region ?_; refine vk vbx ?_; refine asd ?_; refine rn ?_; refine .seq ?_; refine .region ?_; refine vk (vlda aR sR) ?_
  refine cl (xs := [Rv b n d]) ?_ (RRight_fn hn hd hln hld) Tryz.call45
  refine nt_ ?_; refine asd ?_; refine rn ?_; refine .ret ?_
  exact ⟨rfl, rfl⟩

theorem IndexR_fn {rs : List RT} (h : ∀ r ∈ rs, okR r) (hl : rs.length ≤ 1048576) : Fn Tryz.prog 242 [.sl (RVs rs), .fn 222 [] []] (.d (.i .i64 (idxZ (rs.findIdx? (fun r => !rightR r))))) := by
  refine Fn.of (rs := [.tmp 4]) (nt := 19) Tryz.func242 rfl rfl rfl (by simp) rfl ?_; refine .seq ?_; refine .region ?_; refine asd ?_; refine rn ?_; refine .seq ?_; refine .seq ?_; refine .region ?_; refine mvd ?_
  refine ln ?_ (RVs_sz _) lR
  refine mvd ?_; refine rn ?_; refine .block ?_
  refine .loop (.gh (Gh.keep [0, 1, 6, 7, 8] rfl) ?_)
  refine AL.ind (σ := Nat) (m := fun i => rs.length - i) (e := fun i => [(0, .d (.sl (RVs rs))), (1, .d (.fn 222 [] [])), (6, .d (.sl (RVs rs))), (7, .d (.i .i64 ((RVs rs).length : Nat))), (8, .d (.i .i64 (i : Int)))]) (h := fun _ => [])
    (I := fun i => i ≤ rs.length ∧ ∀ j r, j < i → rs[j]? = some r → rightR r = true) ?_ 0 ⟨Nat.zero_le _, fun j r hj => by omega⟩
  rintro i ⟨h1, h2⟩ ih
  refine .seq ?_; refine .region ?_; refine bi ?_; refine rn ?_; refine .seq ?_
  by_cases hi : i < rs.length
  · rw [decide_eq_true (show (i : Int) < ((RVs rs).length : Nat) by rw [RVs_length]; omega)]
    have hx : rs[i]? = some rs[i] := List.getElem?_eq_getElem hi
    have hdx : rs.take (i + 1) = rs.take i ++ [rs[i]] := List.take_succ_eq_append_getElem hi
    generalize rs[i] = r at hx hdx
    obtain ⟨o1, o2, o3, o4⟩ := h r (List.mem_of_getElem? hx)
    refine cndt ?_; refine .skip ?_
    show AW _ _ _ _ _ _
    refine .seq ?_; refine .block ?_; refine .seq ?_; refine .region ?_; refine mvd ?_; refine asd ?_; refine rn ?_; refine .seq ?_; refine .region ?_; refine mvd ?_; refine mvd ?_; refine mvd ?_
    refine ix i ?_ rfl (RVs_at hx) rfl slR
    refine vk (vlda aR sR) ?_
    refine cl (xs := [Rv r.1 r.2.1 r.2.2]) ?_ (notRight_fn o1 o2 o3 o4) Tryz.call222
    refine rn ?_
    by_cases hr : rightL r.1 r.2.1 r.2.2 = false
    · rw [hr]
      refine cndt ?_; refine .seq ?_; refine .region ?_; refine mvd ?_; refine asd ?_; refine rn ?_; refine .ret ?_
      have hf : rs.findIdx? (fun r => !rightR r) = some i := by
        rw [List.findIdx?_eq_some_iff_getElem]
        obtain ⟨hi', he⟩ := List.getElem?_eq_some_iff.1 hx
        refine ⟨hi', by rw [he]; show (!rightL r.1 r.2.1 r.2.2) = true; rw [hr]; rfl, fun j hj => ?_⟩
        have := h2 j rs[j] hj (List.getElem?_eq_getElem (by omega))
        simp [this]
      exact ⟨by rw [hf]; rfl, rfl⟩
    rw [Bool.not_eq_false] at hr
    rw [hr]
    refine cndf ?_; refine .skip ?_
    show AW _ _ _ _ _ _
    refine .region ?_; refine ad ((i + 1 : Nat) : Int) ?_ ?_
    · omega
    refine mvd ?_; refine .nil ?_; refine AL.gh (Gh.keep [0, 1, 6, 7, 8] rfl) ?_
    exact ih (i + 1) ⟨by omega, fun j r' hj hr' => by
      by_cases hji : j = i
      · subst hji; rw [hx] at hr'; cases hr'; exact hr
      · exact h2 j r' (by omega) hr'⟩ (by omega)
  rw [decide_eq_false (show ¬ (i : Int) < ((RVs rs).length : Nat) by rw [RVs_length]; omega)]
  refine cndf ?_; refine .exit ?_
  show AW _ _ _ _ _ _
  refine .seq ?_; refine .region ?_; refine asd ?_; refine rn ?_; refine .ret ?_
  have hf : rs.findIdx? (fun r => !rightR r) = none := by
    rw [List.findIdx?_eq_none_iff]
    intro r hr
    obtain ⟨j, hj⟩ := List.getElem?_of_mem hr
    have hjl := (List.getElem?_eq_some_iff.1 hj).1
    rw [h2 j r (by omega) hj]; rfl
  exact ⟨by rw [hf]; rfl, rfl⟩
end Go.FL
/-
  rat, glyphref02: right, Make; Same.
-/
namespace Go.FL
open Go Go.Proofs


theorem ContainsR_fn {rs : List RT} (h : ∀ r ∈ rs, okR r) (hl : rs.length ≤ 1048576) : Fn Tryz.prog 221 [.sl (RVs rs), .fn 222 [] []] (.d (.b (!rs.all rightR))) := by
  have f := IndexR_fn h hl
  have e : decide ((0 : Int) ≤ idxZ (rs.findIdx? (fun r => !rightR r))) = !rs.all rightR := by
    cases hf : rs.findIdx? (fun r => !rightR r) with
    | none =>
      rw [List.findIdx?_eq_none_iff] at hf
      have : rs.all rightR = true := List.all_eq_true.2 fun r hr => by have := hf r hr; simpa using this
      rw [this]; rfl
    | some i =>
      rw [List.findIdx?_eq_some_iff_getElem] at hf
      obtain ⟨hi, he, _⟩ := hf
      have : rs.all rightR = false := by
        rw [Bool.eq_false_iff]
        intro ha
        have := List.all_eq_true.1 ha _ (List.getElem_mem hi)
        rw [this] at he; cases he
      rw [this]
      exact decide_eq_true (by show (0 : Int) ≤ (i : Int); omega)
  generalize idxZ (rs.findIdx? (fun r => !rightR r)) = z at *
  refine Fn.of (rs := [.tmp 4]) (nt := 9) Tryz.func221 rfl rfl rfl (by simp) rfl ?_; refine .seq ?_; refine .region ?_; refine asd ?_; refine rn ?_; refine .seq ?_; refine .region ?_; refine mvd ?_; refine mvd ?_
  refine cl (xs := [.sl (RVs rs), .fn 222 [] []]) ?_ f Tryz.call242
  refine bi ?_
  rw [e]
  refine asd ?_; refine rn ?_; refine .ret ?_
  exact ⟨rfl, rfl⟩

theorem right_fn {rs : List RT} (h : ∀ r ∈ rs, okR r) (hl : rs.length ≤ 1048576) : Fn Tryz.prog 167 [.sl (RVs rs)] (.d (.b (rs.all rightR))) := by
  have f := ContainsR_fn h hl
  generalize rs.all rightR = b at *
  refine Fn.of (rs := [.tmp 2]) (nt := 6) Tryz.func167 rfl rfl rfl (by simp) rfl ?_; refine .seq ?_; refine .region ?_; refine asd ?_; refine rn ?_; refine .seq ?_; refine .region ?_; refine mvd ?_
  refine cl (xs := [.sl (RVs rs), .fn 222 [] []]) ?_ f Tryz.call221
  refine nt_ ?_
  rw [Bool.not_not]
  refine asd ?_; refine rn ?_; refine .ret ?_
  exact ⟨rfl, rfl⟩

end Go.FL
/-
  rat: OfInt, plus, times, less; glyphref02: OfInt, Zero, signed, Two, Times.
-/
namespace Go.FL
open Go Go.Proofs

abbrev QE := Except Int (Bool × Nat × Nat)
def lowE (b : Bool) (n d : Nat) : QE :=
  if Nat.gcd n d = 0 then .error 22
  else if 32 < (digs (n / Nat.gcd n d)).length ∨ 32 < (digs (d / Nat.gcd n d)).length then .error 8
  else .ok (b && decide (n / Nat.gcd n d ≠ 0), n / Nat.gcd n d, d / Nat.gcd n d)
abbrev Qv (q : Bool × Nat × Nat) : DV := Rv q.1 (digs q.2.1) (digs q.2.2)
def qb : QE → Bool
  | .error _ => false
  | .ok q => q.1
def qn : QE → List Nat
  | .error _ => []
  | .ok q => digs q.2.1
def qd : QE → List Nat
  | .error _ => []
  | .ok q => digs q.2.2
abbrev qv (x : QE) : DV := Rv (qb x) (qn x) (qd x)
def qe : QE → Int
  | .error e => e
  | .ok _ => 0
abbrev resD (x : QE) : List DV := [qv x, .i .i64 (qe x)]
theorem lowN_res (b : Bool) (n d : Nat) : lowN b n d = resD (lowE b n d) := by
  unfold lowN lowE; split
  · rfl
  · split <;> rfl
def plusN (x y : Bool × Nat × Nat) : Bool × Nat × Nat :=
  if x.1 = y.1 then (x.1, x.2.1 * y.2.2 + y.2.1 * x.2.2, x.2.2 * y.2.2)
  else if y.2.1 * x.2.2 ≤ x.2.1 * y.2.2 then (x.1, x.2.1 * y.2.2 - y.2.1 * x.2.2, x.2.2 * y.2.2)
  else (y.1, y.2.1 * x.2.2 - x.2.1 * y.2.2, x.2.2 * y.2.2)
def timesN (x y : Bool × Nat × Nat) : Bool × Nat × Nat := (x.1 != y.1, x.2.1 * y.2.1, x.2.2 * y.2.2)
theorem u64_nn {z : Int} (h0 : 0 ≤ z) (h1 : z ≤ 9223372036854775807) : IntKind.u64.wrap z = ((z.natAbs : Nat) : Int) := by
  simp only [IntKind.wrap, IntKind.bits, IntKind.signed]; simp; omega
theorem u64_neg {z : Int} (h0 : z < 0) (h1 : -9223372036854775808 ≤ z) : IntKind.u64.wrap (0 - IntKind.u64.wrap z) = ((z.natAbs : Nat) : Int) := by
  simp only [IntKind.wrap, IntKind.bits, IntKind.signed]; simp; omega

theorem OfInt_fn {z : Int} (h1 : -9223372036854775808 ≤ z) (h2 : z ≤ 9223372036854775807) : Fn Tryz.prog 72 [.i .i64 z] (.d (Rv (decide (z < 0)) (digs z.natAbs) [1])) := by
  have f := Of_fn (n := z.natAbs) (by omega)
  refine Fn.ofC (rs := [.cell 2 32]) (nt := 16) Tryz.func72 rfl rfl rfl (by simp) rfl ?_; refine .seq ?_; refine .region ?_; refine vk (van (zero_of iR) rR) ?_; refine rn ?_; refine .seq ?_; refine .seq ?_; refine .region ?_; refine mvd ?_; refine bi ?_; refine rn ?_
  by_cases hz : z < 0
  · rw [decide_eq_true hz]
    refine cndt ?_; refine .seq ?_; refine .region ?_; refine mvd ?_
    refine cv ?_ i64 u64
    refine ng ?_
    rw [u64_neg hz h1]
    refine cl (xs := [.i .u64 ((z.natAbs : Nat) : Int)]) ?_ f Tryz.call158
    refine cl (xs := []) ?_ one_fn Tryz.call121
    refine fz (p := .t 9) ?_; refine vk (vbd pR iR rR) ?_
    refine stn ?_ sR (by decide)
    refine rn ?_; refine .ret ?_
    exact ⟨_, ⟨.inr rfl, aR, sR, (by decide : (0 : Nat) < 3)⟩, rfl⟩
  rw [decide_eq_false hz]
  refine cndf ?_; refine .skip ?_
  show AW _ _ _ _ _ _
  refine .seq ?_; refine .region ?_; refine mvd ?_
  refine cv ?_ i64 u64
  rw [u64_nn (by omega) h2]
  refine cl (xs := [.i .u64 ((z.natAbs : Nat) : Int)]) ?_ f Tryz.call158
  refine cl (xs := []) ?_ one_fn Tryz.call121
  refine fz (p := .t 14) ?_; refine vk (vbd pR iR rR) ?_
  refine stn ?_ sR (by decide)
  refine rn ?_; refine .ret ?_
  exact ⟨_, ⟨.inr rfl, aR, sR, (by decide : (0 : Nat) < 3)⟩, rfl⟩


theorem refZero_fn : Fn Tryz.prog 33 [] (.d (Rv false [] [1])) := by
  refine Fn.ofC (rs := [.cell 0 32]) (nt := 3) Tryz.func33 rfl rfl rfl (by simp) rfl ?_; refine .seq ?_; refine .region ?_; refine vk (van (zero_of iR) rR) ?_; refine rn ?_; refine .seq ?_; refine .region ?_
  refine cl (xs := []) ?_ refOne_fn Tryz.call44
  refine fz (p := .t 1) ?_; refine vk (vbd pR iR rR) ?_
  refine stn ?_ sR (by decide)
  refine rn ?_; refine .ret ?_
  exact ⟨_, ⟨.inr rfl, aR, sR, (by decide : (0 : Nat) < 3)⟩, rfl⟩

theorem zB : szOf Tryz.prog 4 = 1 := by kernel_rfl

theorem less_fn (b : Bool) (n d : List Nat) : Fn Tryz.prog 205 [Nv b n d] (.d (Nv (!b) n d)) := by
  refine Fn.ofC (rs := [.cell 2 157]) (nt := 8) Tryz.func205 rfl rfl rfl (by simp) rfl ?_; refine .seq ?_; refine .region ?_; refine vk vbn ?_; refine RL.gh2 (Gh.nbb (t := 1) rfl) ?_; refine vk (van (zero_of iN) rN) ?_; refine rn ?_; refine .seq ?_; refine .region ?_; refine vk (vfab fN1) ?_
  refine ldb (cs := [.d (.sl (L n)), .d (.sl (L d)), .d (.b b)]) (c := .d (.b b)) rfl rfl ?_ aB
  refine nt_ ?_; refine vk (vfab fN1) ?_
  refine stb (cs := [.d (.sl (L n)), .d (.sl (L d)), .d (.b b)]) (c := .d (.b b)) rfl rfl ?_ zB
  refine rn ?_; refine .seq ?_; refine .region ?_; refine vk (vldba (cs := [.d (.sl (L n)), .d (.sl (L d)), .d (.b (!b))]) (ds := [.sl (L n), .sl (L d), .b (!b)]) rfl aN sN) ?_
  refine stn ?_ sN (by decide)
  refine rn ?_; refine .ret ?_
  exact ⟨_, ⟨.inr rfl, aN, sN, (by decide : (0 : Nat) < 3)⟩, rfl⟩

theorem plus_fn {b c : Bool} {n d m e : List Nat} (hn : Ok n) (hd : Ok d) (hm : Ok m) (he : Ok e) (hln : n.length ≤ 4000) (hld : d.length ≤ 4000) (hlm : m.length ≤ 4000) (hle : e.length ≤ 4000) :
    Fn Tryz.prog 204 [Nv b n d, Nv c m e] (.d (Nv (plusN (b, val n, val d) (c, val m, val e)).1 (digs (plusN (b, val n, val d) (c, val m, val e)).2.1) (digs (plusN (b, val n, val d) (c, val m, val e)).2.2))) := by
  have c1 := cross_fn (n := n) (d := d) (m := m) (e := e) hn he hln hle
  have c2 := cross_fn (n := m) (d := e) (m := n) (e := d) hm hd hlm hld
  have p1 := prods_fn (M := 4000) (ls := [d, e]) (by simp [hd, he]) (by simp [hld, hle]) (by simp) (by decide)
  rw [show prodF [d, e] 1 = val d * val e by show 1 * val d * val e = _; rw [Nat.one_mul]] at p1
  have bnd : ∀ {x y : List Nat}, Ok x → Ok y → x.length ≤ 4000 → y.length ≤ 4000 → (digs (val x * val y)).length ≤ 8000 := fun hx hy lx ly => by
    refine Nat.le_trans (digs_len (k := _ + _) (by rw [Nat.pow_add]; exact Nat.mul_lt_mul'' (val_lt hx) (val_lt hy))) (by omega)
  have b1 := bnd hn he hln hle
  have b2 := bnd hm hd hlm hld
  simp only [plusN]
  generalize val n * val e = x at *
  generalize val m * val d = y at *
  generalize val d * val e = q at *
  have s1 := sum_fn (M := 8000) (ls := [digs x, digs y]) (by simp [digs_ok]) (by simp [b1, b2]) (by simp) (by decide)
  rw [show ([digs x, digs y].map val).sum = x + y by simp only [List.map_cons, List.map_nil, List.sum_cons, List.sum_nil, val_digs]; omega] at s1
  have m1 := Minus_fn (a := digs x) (b := digs y) (digs_ok _) (digs_ok _) (by omega) (by omega)
  have m2 := Minus_fn (a := digs y) (b := digs x) (digs_ok _) (digs_ok _) (by omega) (by omega)
  rw [val_digs, val_digs] at m1 m2
  refine Fn.ofC (rs := [.cell 4 157]) (nt := 69) Tryz.func204 rfl rfl rfl (by simp) rfl ?_; refine .seq ?_; refine .region ?_; refine vk vbx ?_; refine vk vbx ?_; refine vk (van (zero_of iN) rN) ?_; refine rn ?_; refine .seq ?_; refine .drawn 10 mixed (by kernel_rfl) ?_; refine dv (vfa fN0) ?_; refine dv (vlda aZ sZ) ?_; refine dv (vfa fN0) ?_; refine dv (vlda aZ sZ) ?_; refine dv (v := .d (.sl (L (digs x)))) (vcl (xs := [Zv n d, Zv m e]) (r := .d (.sl (L (digs x)))) c1 Tryz.call239) ?_; refine dv (vfa fN0) ?_; refine dv (vlda aZ sZ) ?_; refine dv (vfa fN0) ?_; refine dv (vlda aZ sZ) ?_; refine dv (v := .d (.sl (L (digs y)))) (vcl (xs := [Zv m e, Zv n d]) (r := .d (.sl (L (digs y)))) c2 Tryz.call239) ?_; refine dz ?_; refine asd ?_; refine asd ?_; refine rn ?_; refine .gh (Gh.keep [2, 3, 4, 5, 6] rfl) ?_; refine .seq ?_; refine .region ?_; refine vk (vfa fN0) ?_; refine vk (vfa fZ1) ?_
  refine ldp ?_ aS
  refine vk (vfa fN0) ?_; refine vk (vfa fZ1) ?_
  refine ldp ?_ aS
  refine bsl ?_ ?_ e2
  · simp [DV.flat, DV.cells, DV.leaf]
  refine fz (p := .t 28) ?_
  refine cl (xs := [.sl (LL [d, e])]) ?_ p1 Tryz.call166
  refine asd ?_; refine rn ?_; refine .gh (Gh.keep [2, 3, 4, 5, 6, 7] rfl) ?_; refine .seq ?_; refine .seq ?_; refine .region ?_; refine vk (vfa fN1) ?_
  refine ldp ?_ aB
  refine vk (vfa fN1) ?_
  refine ldp ?_ aB
  refine bbn ?_ (.inl rfl) bo
  rw [if_pos rfl]
  refine rn ?_
  by_cases hbc : b = c
  · subst hbc
    rw [beq_self_eq_true, if_pos rfl]
    refine cndt ?_; refine .seq ?_; refine .drawn 9 mixed (by kernel_rfl) ?_; refine dv vmvd ?_; refine dv vmvd ?_; refine dv (v := .d (.sl (LL [digs x, digs y]))) (vbsl (LL_flat [digs x, digs y]) e2).deep ?_; refine dv (v := .d (.sl (L (digs (x + y))))) (vcl (xs := [.sl (LL [digs x, digs y])]) (r := .d (.sl (L (digs (x + y))))) s1 Tryz.call165) ?_; refine dv vmvd ?_; refine dv (vbd pZ iZ rZ) ?_; refine dv (vfa fN1) ?_; refine dv (vldp aB) ?_; refine dv (vbd pN iN rN) ?_; refine dz ?_
    refine stn ?_ sN (by decide)
    refine rn ?_; refine .ret ?_
    exact ⟨_, ⟨.inr rfl, aN, sN, (by decide : (0 : Nat) < 3)⟩, rfl⟩
  rw [beq_false_of_ne hbc, if_neg hbc]
  refine cndf ?_; refine .skip ?_
  show AW _ _ _ _ _ _
  refine .seq ?_; refine .seq ?_; refine .region ?_; refine mvd ?_; refine mvd ?_
  refine cl (xs := [.sl (L (digs x)), .sl (L (digs y))]) ?_ m1 Tryz.call209
  refine mvt ?_; refine ex ?_; refine ex ?_; refine asd ?_; refine asd ?_; refine rn ?_; refine .gh (Gh.keep [2, 3, 4, 5, 6, 7, 8, 9] rfl) ?_; refine .seq ?_; refine .region ?_; refine mvd ?_; refine rn ?_
  by_cases hle2 : y ≤ x
  · rw [decide_eq_true hle2, if_pos hle2]
    refine cndt ?_; refine .seq ?_; refine .region ?_; refine mvd ?_; refine mvd ?_; refine vk (vbd pZ iZ rZ) ?_; refine vk (vfa fN1) ?_
    refine ldp ?_ aB
    refine vk (vbd pN iN rN) ?_
    refine stn ?_ sN (by decide)
    refine rn ?_; refine .ret ?_
    exact ⟨_, ⟨.inr rfl, aN, sN, (by decide : (0 : Nat) < 3)⟩, by rw [minN_of hle2]; rfl⟩
  rw [decide_eq_false hle2, if_neg hle2]
  refine cndf ?_; refine .skip ?_
  show AW _ _ _ _ _ _
  refine .seq ?_; refine .region ?_; refine mvd ?_; refine mvd ?_
  refine cl (xs := [.sl (L (digs y)), .sl (L (digs x))]) ?_ m2 Tryz.call209
  refine mvt ?_; refine ex ?_; refine ex ?_; refine asd ?_; refine asd ?_; refine rn ?_; refine .gh (Gh.keep [2, 3, 4, 7, 10] rfl) ?_; refine .seq ?_; refine .region ?_; refine mvd ?_; refine mvd ?_; refine vk (vbd pZ iZ rZ) ?_; refine vk (vfa fN1) ?_
  refine ldp ?_ aB
  refine vk (vbd pN iN rN) ?_
  refine stn ?_ sN (by decide)
  refine rn ?_; refine .ret ?_
  exact ⟨_, ⟨.inr rfl, aN, sN, (by decide : (0 : Nat) < 3)⟩, by rw [minN_of (by omega)]; rfl⟩

theorem times_fn {b c : Bool} {n d m e : List Nat} (hn : Ok n) (hd : Ok d) (hm : Ok m) (he : Ok e) (hln : n.length ≤ 4000) (hld : d.length ≤ 4000) (hlm : m.length ≤ 4000) (hle : e.length ≤ 4000) :
    Fn Tryz.prog 169 [Nv b n d, Nv c m e] (.d (Nv (b != c) (digs (val n * val m)) (digs (val d * val e)))) := by
  have p1 := prods_fn (M := 4000) (ls := [n, m]) (by simp [hn, hm]) (by simp [hln, hlm]) (by simp) (by decide)
  rw [show prodF [n, m] 1 = val n * val m by show 1 * val n * val m = _; rw [Nat.one_mul]] at p1
  have p2 := prods_fn (M := 4000) (ls := [d, e]) (by simp [hd, he]) (by simp [hld, hle]) (by simp) (by decide)
  rw [show prodF [d, e] 1 = val d * val e by show 1 * val d * val e = _; rw [Nat.one_mul]] at p2
  refine Fn.ofC (rs := [.cell 4 157]) (nt := 28) Tryz.func169 rfl rfl rfl (by simp) rfl ?_; refine .seq ?_; refine .region ?_; refine vk vbx ?_; refine vk vbx ?_; refine vk (van (zero_of iN) rN) ?_; refine rn ?_; refine .seq ?_; refine .drawn 23 mixed (by kernel_rfl) ?_; refine dv (vfa fN0) ?_; refine dv (vfa fZ0) ?_; refine dv (vldp aS) ?_; refine dv (vfa fN0) ?_; refine dv (vfa fZ0) ?_; refine dv (vldp aS) ?_; refine dv (v := .d (.sl (LL [n, m]))) (vbsl (LL_flat [n, m]) e2).deep ?_; refine dv (v := .d (.sl (L (digs (val n * val m))))) (vcl (xs := [.sl (LL [n, m])]) (r := .d (.sl (L (digs (val n * val m))))) p1 Tryz.call166) ?_; refine dv (vfa fN0) ?_; refine dv (vfa fZ1) ?_; refine dv (vldp aS) ?_; refine dv (vfa fN0) ?_; refine dv (vfa fZ1) ?_; refine dv (vldp aS) ?_; refine dv (v := .d (.sl (LL [d, e]))) (vbsl (LL_flat [d, e]) e2).deep ?_; refine dv (v := .d (.sl (L (digs (val d * val e))))) (vcl (xs := [.sl (LL [d, e])]) (r := .d (.sl (L (digs (val d * val e))))) p2 Tryz.call166) ?_; refine dv (vbd pZ iZ rZ) ?_; refine dv (vfa fN1) ?_; refine dv (vldp aB) ?_; refine dv (vfa fN1) ?_; refine dv (vldp aB) ?_; refine dv (vbbn (.inr rfl) bo) ?_; refine dv (vbd pN iN rN) ?_; refine dz ?_
  refine stn ?_ sN (by decide)
  refine rn ?_; refine .ret ?_
  exact ⟨_, ⟨.inr rfl, aN, sN, (by decide : (0 : Nat) < 3)⟩, rfl⟩
end Go.FL
/-
  rat: fold, Add, Mul.
-/
namespace Go.FL
open Go Go.Proofs

abbrev Q3 := Bool × Nat × Nat
abbrev lowQ (q : Q3) : QE := lowE q.1 q.2.1 q.2.2
abbrev rq (r : RT) : Q3 := (r.1, val r.2.1, val r.2.2)
def foldE (op : Q3 → Q3 → Q3) : Q3 → List RT → QE
  | s, [] => .ok s
  | s, r :: rs => match lowQ (op s (rq r)) with
    | .error e => .error e
    | .ok t => foldE op t rs
def small3 (q : Q3) : Prop := (digs q.2.1).length ≤ 32 ∧ (digs q.2.2).length ≤ 32
theorem lowE_ok {b : Bool} {n d : Nat} {t : Q3} (h : lowE b n d = .ok t) : small3 t := by
  unfold lowE at h
  split at h
  · cases h
  · split at h
    · cases h
    · rename_i h2
      cases h
      exact ⟨Nat.le_of_not_lt fun h3 => h2 (.inl h3), Nat.le_of_not_lt fun h3 => h2 (.inr h3)⟩
theorem lowE_err {b : Bool} {n d : Nat} {e : Int} (h : lowE b n d = .error e) : e ≠ 0 := by
  unfold lowE at h
  split at h
  · cases h; decide
  · split at h
    · cases h; decide
    · cases h
theorem qe_err {x : QE} (h : ¬ qe x = 0) : ∃ e, x = .error e := by
  cases x with
  | error e => exact ⟨e, rfl⟩
  | ok t => exact absurd rfl h
theorem qe_ok {x : QE} (h : qe x = 0) (h2 : ∀ e, x = .error e → e ≠ 0) : ∃ t, x = .ok t := by
  cases x with
  | error e => exact absurd h (h2 e rfl)
  | ok t => exact ⟨t, rfl⟩
theorem rightR_len {r : RT} (h : rightR r = true) : r.2.1.length ≤ 32 ∧ r.2.2.length ≤ 32 := by
  have : RightP r.1 r.2.1 r.2.2 := of_decide_eq_true h
  exact ⟨this.2.2.1, this.2.2.2.1⟩
def twoFn (f : Nat) (op : Q3 → Q3 → Q3) : Prop :=
  ∀ (b c : Bool) (n d m e : List Nat), Ok n → Ok d → Ok m → Ok e → n.length ≤ 32 → d.length ≤ 32 → m.length ≤ 32 → e.length ≤ 32 →
    Fn Tryz.prog f [Nv b n d, Nv c m e] (.d (Nv (op (b, val n, val d) (c, val m, val e)).1 (digs (op (b, val n, val d) (c, val m, val e)).2.1) (digs (op (b, val n, val d) (c, val m, val e)).2.2)))
    ∧ (digs (op (b, val n, val d) (c, val m, val e)).2.1).length ≤ 100 ∧ (digs (op (b, val n, val d) (c, val m, val e)).2.2).length ≤ 100

theorem fold_fn {z : Int} {rs : List RT} {f : Nat} {op : Q3 → Q3 → Q3} (hz0 : 0 ≤ z) (hz1 : z ≤ 1) (h : ∀ r ∈ rs, okR r) (hl : rs.length ≤ 1048576) (hop : twoFn f op) (hcall : ∀ args w, (callFunc f args).run Tryz.prog w = .ok (.enter f args) w) :
    Fn Tryz.prog 203 [.i .i64 z, .sl (RVs rs), .fn f [] []] (.tup ((resD (if rs.all rightR = true then foldE op (false, z.natAbs, 1) rs else .error 22)).map .d)) := by
  have f1 := right_fn h hl
  have f2 := OfInt_fn (z := z) (by omega) (by omega)
  rw [decide_eq_false (show ¬ z < 0 by omega)] at f2
  have one : digs 1 = [1] := one_limb (n := 1) (by decide) (by decide)
  refine Fn.ofC (rs := [.cell 6 32, .tmp 7]) (nt := 42) Tryz.func203 rfl rfl rfl (by simp) (noBp_d _) ?_; refine .seq ?_; refine .region ?_; refine vk (van (zero_of iR) rR) ?_; refine asd ?_; refine rn ?_; refine .seq ?_; refine .seq ?_; refine .region ?_; refine mvd ?_
  refine cl (xs := [.sl (RVs rs)]) ?_ f1 Tryz.call167
  refine nt_ ?_; refine rn ?_; refine .gh (Gh.keep [0, 1, 2, 6, 7, 15] rfl) ?_
  by_cases hr : rs.all rightR = false
  · rw [hr, if_neg (by decide)]
    refine cndt ?_; refine .seq ?_; refine .region ?_; refine vk (vbd pR iR rR) ?_
    refine stn ?_ sR (by decide)
    refine asd ?_; refine rn ?_; refine .ret ?_
    exact ⟨_, _, ⟨.inr rfl, aR, sR, (by decide : (0 : Nat) < 3)⟩, rfl, rfl⟩
  rw [Bool.not_eq_false] at hr
  rw [hr, if_pos rfl]
  refine cndf ?_; refine .skip ?_
  show AW _ _ _ _ _ _
  refine .seq ?_; refine .region ?_; refine mvd ?_
  refine cl (xs := [.i .i64 z]) ?_ f2 Tryz.call72
  refine vk (van (zero_of iR) rR) ?_
  refine stn ?_ sR (by decide)
  refine rn ?_; refine .gh (Gh.keep [1, 2, 6, 8] rfl) ?_; refine .seq ?_; refine .seq ?_; refine .region ?_; refine mvd ?_
  refine ln ?_ (RVs_sz _) lR
  refine mvd ?_; refine rn ?_; refine .block ?_
  refine .loop (.gh (Gh.keep [2, 6, 8, 19, 20, 21] rfl) ?_)
  refine AL.cast (env' := [(2, .d (.fn f [] [])), (6, .nb [.b false, .sl [], .sl []]), (8, .nb [.b false, .sl (L (digs z.natAbs)), .sl (L (digs 1))]), (19, .d (.sl (RVs rs))), (20, .d (.i .i64 ((RVs rs).length : Nat))), (21, .d (.i .i64 ((0 : Nat) : Int)))]) (by rw [one]; rfl) ?_
  refine AL.ind (σ := Q3 × Nat) (m := fun p => rs.length - p.2) (e := fun p => [(2, .d (.fn f [] [])), (6, .nb [.b false, .sl [], .sl []]), (8, .nb [.b p.1.1, .sl (L (digs p.1.2.1)), .sl (L (digs p.1.2.2))]), (19, .d (.sl (RVs rs))), (20, .d (.i .i64 ((RVs rs).length : Nat))), (21, .d (.i .i64 (p.2 : Int)))]) (h := fun _ => [])
    (I := fun p => p.2 ≤ rs.length ∧ small3 p.1 ∧ foldE op p.1 (rs.drop p.2) = foldE op (false, z.natAbs, 1) rs) ?_ ((false, z.natAbs, 1), 0) ⟨Nat.zero_le _, ⟨by have := digs_len (n := z.natAbs) (k := 32) (Nat.lt_of_lt_of_le (show z.natAbs < 2 by omega) (by decide)); exact this, by rw [one]; decide⟩, rfl⟩
  rintro ⟨s, i⟩ ⟨h1, h2, h3⟩ ih
  dsimp only at h1 h2 h3 ih ⊢
  refine .seq ?_; refine .region ?_; refine bi ?_; refine rn ?_; refine .seq ?_
  by_cases hi : i < rs.length
  · rw [decide_eq_true (show (i : Int) < ((RVs rs).length : Nat) by rw [RVs_length]; omega)]
    have hx : rs[i]? = some rs[i] := List.getElem?_eq_getElem hi
    have hdr : rs.drop i = rs[i] :: rs.drop (i + 1) := List.drop_eq_getElem_cons hi
    generalize rs[i] = r at hx hdr
    have hmem := List.mem_of_getElem? hx
    obtain ⟨o1, o2, o3, o4⟩ := h r hmem
    obtain ⟨l1, l2⟩ := rightR_len (List.all_eq_true.1 hr r hmem)
    obtain ⟨w1, w3, w4⟩ := hop s.1 r.1 (digs s.2.1) (digs s.2.2) r.2.1 r.2.2 (digs_ok _) (digs_ok _) o1 o2 h2.1 h2.2 l1 l2
    rw [hdr] at h3
    rw [val_digs, val_digs] at w1 w3 w4
    rw [foldE] at h3
    have hop2 : op (s.1, s.2.1, s.2.2) (r.1, val r.2.1, val r.2.2) = op s (rq r) := rfl
    rw [hop2] at w1 w3 w4
    generalize op s (rq r) = t at *
    have w2 := lowest_fn (M := 100) (b := t.1) (digs_ok t.2.1) (digs_ok t.2.2) w3 w4 (by decide)
    rw [val_digs, val_digs, lowN_res] at w2
    have hxs : ∀ q, lowQ t = .ok q → small3 q := fun q hq => lowE_ok hq
    have hxe : ∀ e, lowQ t = .error e → e ≠ 0 := fun e he => lowE_err he
    replace w2 : Fn Tryz.prog 170 [Nv t.1 (digs t.2.1) (digs t.2.2)] (.tup ((resD (lowQ t)).map .d)) := w2
    generalize lowQ t = x at *
    refine cndt ?_; refine .skip ?_
    show AW _ _ _ _ _ _
    refine .seq ?_; refine .block ?_; refine .seq ?_; refine .region ?_
    refine ix i ?_ rfl (RVs_at hx) rfl slR
    refine vk (vlda aR sR) ?_; refine vk (van (zero_of iR) rR) ?_
    refine stn ?_ sR (by decide)
    refine RL.gh (Gh.nbp (t := 10) rfl) ?_; refine rn ?_; refine .gh (Gh.keep [2, 6, 8, 10, 19, 20, 21] rfl) ?_; refine .seq ?_; refine .drawnF 11 [9] [(11, .nb [.b (qb x), .sl (L (qn x)), .sl (L (qd x))])] [] mixed (by kernel_rfl) rfl ?_; refine dv vmvd ?_; refine dv (vldn aR sR) ?_; refine dv (v := .d (Nv s.1 (digs s.2.1) (digs s.2.2))) (vcl (xs := [Qv s]) (r := .d (Nv s.1 (digs s.2.1) (digs s.2.2))) (of_fn s.1 (digs s.2.1) (digs s.2.2)) Tryz.call168) ?_; refine dv (vlda aR sR) ?_; refine dv (v := .d (Nv r.1 r.2.1 r.2.2)) (vcl (xs := [Rv r.1 r.2.1 r.2.2]) (r := .d (Nv r.1 r.2.1 r.2.2)) (of_fn r.1 r.2.1 r.2.2) Tryz.call168) ?_; refine dv (v := .d (Nv t.1 (digs t.2.1) (digs t.2.2))) (vcl (xs := [Nv s.1 (digs s.2.1) (digs s.2.2), Nv r.1 r.2.1 r.2.2]) (r := .d (Nv t.1 (digs t.2.1) (digs t.2.2))) w1 hcall) ?_; refine dv (v := .d (.tup (resD x))) (VOK.tupd (vcl (xs := [Nv t.1 (digs t.2.1) (digs t.2.2)]) w2 Tryz.call170)) ?_; refine dv vmvd ?_; refine dv vex ?_; refine dv vex ?_; refine dv (van (zero_of iR) rR) ?_; refine dz ?_
    refine ⟨?_, ?_, ?_⟩
    · intro k hk
      simp only [List.mem_cons, List.not_mem_nil, or_false] at hk
      subst hk
      exact ⟨_, _, _, rfl, rfl, rfl, rfl, rfl, rfl, vex⟩
    · intro om e hom hge
      cases hom
      exact ok_stn (cs := [.b false, .sl [], .sl []]) (cs' := [.b (qb x), .sl (L (qn x)), .sl (L (qd x))]) sR (by decide) rfl ((hge 11 (fun k hk v hv => by
          simp only [List.mem_cons, List.not_mem_nil, or_false] at hk
          subst hk; exact (by decide : ¬ (some 34 = some 11)) (congrArg (Option.map Prod.fst) hv))).trans rfl) ((congrArg deepOf (hge 33 (fun k hk v hv => by
          simp only [List.mem_cons, List.not_mem_nil, or_false] at hk
          subst hk; exact (by decide : ¬ (some 34 = some 33)) (congrArg (Option.map Prod.fst) hv)))).trans rfl) rfl rfl rfl rfl ⟨rfl, rfl⟩
    refine RL.gh (Gh.nbp (t := 11) rfl) ?_; refine asd ?_; refine rn ?_; refine .gh (Gh.keep [2, 6, 8, 11, 12, 19, 20, 21] rfl) ?_; refine .seq ?_; refine .seq ?_; refine .region ?_; refine mvd ?_; refine bi ?_; refine rn ?_
    by_cases hxq : ¬ qe x = 0
    · rw [decide_eq_false hxq]
      obtain ⟨e, rfl⟩ := qe_err hxq
      refine cndt ?_; refine .seq ?_; refine .region ?_; refine vk (vbd pR iR rR) ?_; refine mvd ?_
      refine stn ?_ sR (by decide)
      refine asd ?_; refine rn ?_; refine .ret ?_
      exact ⟨_, _, ⟨.inr rfl, aR, sR, (by decide : (0 : Nat) < 3)⟩, rfl, by rw [← h3]; rfl⟩
    rw [Decidable.not_not] at hxq
    rw [decide_eq_true hxq]
    obtain ⟨q, rfl⟩ := qe_ok hxq hxe
    refine cndf ?_; refine .skip ?_
    show AW _ _ _ _ _ _
    refine .region ?_; refine vk (vlda aR sR) ?_
    refine stn ?_ sR (by decide)
    refine .nil ?_
    show AW _ _ _ _ _ _
    refine .region ?_; refine ad ((i + 1 : Nat) : Int) ?_ ?_
    · omega
    refine mvd ?_; refine .nil ?_; refine AL.gh (Gh.keep [2, 6, 8, 19, 20, 21] rfl) ?_
    exact ih (q, i + 1) ⟨by dsimp only; omega, hxs q rfl, h3⟩ (by dsimp only; omega)
  rw [decide_eq_false (show ¬ (i : Int) < ((RVs rs).length : Nat) by rw [RVs_length]; omega)]
  refine cndf ?_; refine .exit ?_
  show AW _ _ _ _ _ _
  refine .seq ?_; refine .region ?_; refine vk (vldn aR sR) ?_
  refine stn ?_ sR (by decide)
  refine asd ?_; refine rn ?_; refine .ret ?_
  rw [List.drop_eq_nil_of_le (by omega)] at h3
  exact ⟨_, _, ⟨.inr rfl, aR, sR, (by decide : (0 : Nat) < 3)⟩, rfl, by rw [← h3]; rfl⟩

theorem mul_len {x y : List Nat} {k : Nat} (hx : Ok x) (hy : Ok y) (lx : x.length ≤ k) (ly : y.length ≤ k) : (digs (val x * val y)).length ≤ 2 * k :=
  Nat.le_trans (digs_len (k := _ + _) (by rw [Nat.pow_add]; exact Nat.mul_lt_mul'' (val_lt hx) (val_lt hy))) (by omega)
theorem add_len {x y k : Nat} (hx : (digs x).length ≤ k) (hy : (digs y).length ≤ k) : (digs (x + y)).length ≤ k + 1 := by
  have h1 := Nat.lt_of_lt_of_le (val_lt (digs_ok x)) (Nat.pow_le_pow_right (n := 4294967296) (by decide) hx)
  have h2 := Nat.lt_of_lt_of_le (val_lt (digs_ok y)) (Nat.pow_le_pow_right (n := 4294967296) (by decide) hy)
  rw [val_digs] at h1 h2
  refine digs_len ?_
  rw [pow_split]; omega
theorem sub_len {x y k : Nat} (hx : (digs x).length ≤ k) : (digs (x - y)).length ≤ k := Nat.le_trans (digs_mono (Nat.sub_le x y)) hx
theorem plus_two : twoFn 204 plusN := by
  intro b c n d m e hn hd hm he ln ld lm le
  have l1 := mul_len hn he ln le
  have l2 := mul_len hm hd lm ld
  refine ⟨plus_fn hn hd hm he (by omega) (by omega) (by omega) (by omega), ?_, ?_⟩
  · simp only [plusN]
    generalize val n * val e = x at *
    generalize val m * val d = y at *
    split
    · exact Nat.le_trans (add_len l1 l2) (by decide)
    · split
      · exact Nat.le_trans (sub_len l1) (by decide)
      · exact Nat.le_trans (sub_len l2) (by decide)
  · have := mul_len hd he ld le
    have h : (plusN (b, val n, val d) (c, val m, val e)).2.2 = val d * val e := by simp only [plusN]; split <;> first | rfl | (split <;> rfl)
    rw [h]; omega
theorem times_two : twoFn 169 timesN := by
  intro b c n d m e hn hd hm he ln ld lm le
  have l1 := mul_len hn hm ln lm
  have l2 := mul_len hd he ld le
  exact ⟨times_fn hn hd hm he (by omega) (by omega) (by omega) (by omega), by show (digs (val n * val m)).length ≤ 100; omega, by show (digs (val d * val e)).length ≤ 100; omega⟩
def addE (rs : List RT) : QE := if rs.all rightR = true then foldE plusN (false, 0, 1) rs else .error 22
def mulE (rs : List RT) : QE := if rs.all rightR = true then foldE timesN (false, 1, 1) rs else .error 22

theorem RAdd_fn {rs : List RT} (h : ∀ r ∈ rs, okR r) (hl : rs.length ≤ 1048576) : Fn Tryz.prog 133 [.sl (RVs rs)] (.tup ((resD (addE rs)).map .d)) := by
  have f := fold_fn (z := 0) (by decide) (by decide) h hl plus_two Tryz.call204
  replace f : Fn Tryz.prog 203 [.i .i64 0, .sl (RVs rs), .fn 204 [] []] (.tup ((resD (addE rs)).map .d)) := f
  generalize addE rs = x at *
  refine Fn.ofC (rs := [.cell 2 32, .tmp 3]) (nt := 8) Tryz.func133 rfl rfl rfl (by simp) (noBp_d _) ?_; refine .seq ?_; refine .region ?_; refine vk (van (zero_of iR) rR) ?_; refine asd ?_; refine rn ?_; refine .seq ?_; refine .region ?_; refine mvd ?_; refine vk (av := .d (.tup (resD x))) (VOK.tupd (vcl (xs := [.i .i64 0, .sl (RVs rs), .fn 204 [] []]) f Tryz.call203)) ?_; refine vk vex ?_; refine vk vex ?_
  refine stn ?_ sR (by decide)
  refine asd ?_; refine rn ?_; refine .ret ?_
  exact ⟨_, _, ⟨.inr rfl, aR, sR, (by decide : (0 : Nat) < 3)⟩, rfl, rfl⟩

theorem RMul_fn {rs : List RT} (h : ∀ r ∈ rs, okR r) (hl : rs.length ≤ 1048576) : Fn Tryz.prog 135 [.sl (RVs rs)] (.tup ((resD (mulE rs)).map .d)) := by
  have f := fold_fn (z := 1) (by decide) (by decide) h hl times_two Tryz.call169
  replace f : Fn Tryz.prog 203 [.i .i64 1, .sl (RVs rs), .fn 169 [] []] (.tup ((resD (mulE rs)).map .d)) := f
  generalize mulE rs = x at *
  refine Fn.ofC (rs := [.cell 2 32, .tmp 3]) (nt := 8) Tryz.func135 rfl rfl rfl (by simp) (noBp_d _) ?_; refine .seq ?_; refine .region ?_; refine vk (van (zero_of iR) rR) ?_; refine asd ?_; refine rn ?_; refine .seq ?_; refine .region ?_; refine mvd ?_; refine vk (av := .d (.tup (resD x))) (VOK.tupd (vcl (xs := [.i .i64 1, .sl (RVs rs), .fn 169 [] []]) f Tryz.call203)) ?_; refine vk vex ?_; refine vk vex ?_
  refine stn ?_ sR (by decide)
  refine asd ?_; refine rn ?_; refine .ret ?_
  exact ⟨_, _, ⟨.inr rfl, aR, sR, (by decide : (0 : Nat) < 3)⟩, rfl, rfl⟩
end Go.FL
/-
  GP, 2: facts of the types.
-/
namespace Go.FL
open Go Go.Proofs

theorem ga_bool : aggT Tryz.prog 4 = some false := by kernel_rfl
theorem ga_int : aggT Tryz.prog 3 = some false := by kernel_rfl
theorem gz_int : szOf Tryz.prog 3 = 1 := by kernel_rfl
theorem ga_int32 : aggT Tryz.prog 21 = some false := by kernel_rfl
theorem ga_uint32 : aggT Tryz.prog 121 = some false := by kernel_rfl
theorem gA_R : aggT Tryz.prog 32 = some true := by kernel_rfl
theorem gS_R : szOf Tryz.prog 32 = 3 := by kernel_rfl
theorem gF_R_0 : fieldT Tryz.prog 32 0 = some (0, 1) := by kernel_rfl
theorem gF_R_1 : fieldT Tryz.prog 32 1 = some (1, 1) := by kernel_rfl
theorem gF_R_2 : fieldT Tryz.prog 32 2 = some (2, 1) := by kernel_rfl
theorem gP_R : structT Tryz.prog 32 = some [(0, 1), (1, 1), (2, 1)] := by kernel_rfl
theorem gI_R : (Tryz.prog.info? 32).bind (·.zero) = some (.agg #[.bool false, .slice none 0 0, .slice none 0 0]) := by kernel_rfl
theorem gZ_R (w : World) (I : Nat → Prop) : RepAll w I [.b false, .sl [], .sl []] (Value.agg #[.bool false, .slice none 0 0, .slice none 0 0]).cells.toList := .cons (.b _) (.cons (.sl0 _ _) (.cons (.sl0 _ _) (.nil)))
theorem gA_Z : aggT Tryz.prog 155 = some true := by kernel_rfl
theorem gS_Z : szOf Tryz.prog 155 = 2 := by kernel_rfl
theorem gF_Z_0 : fieldT Tryz.prog 155 0 = some (0, 1) := by kernel_rfl
theorem gP_Z : structT Tryz.prog 155 = some [(0, 1), (1, 1)] := by kernel_rfl
theorem gI_Z : (Tryz.prog.info? 155).bind (·.zero) = some (.agg #[.slice none 0 0, .slice none 0 0]) := by kernel_rfl
theorem gZ_Z (w : World) (I : Nat → Prop) : RepAll w I [.sl [], .sl []] (Value.agg #[.slice none 0 0, .slice none 0 0]).cells.toList := .cons (.sl0 _ _) (.cons (.sl0 _ _) (.nil))
theorem gS_N : szOf Tryz.prog 157 = 3 := by kernel_rfl
theorem gG_N_0 : fagT Tryz.prog 157 0 = some true := by kernel_rfl
theorem gF_N_0 : fieldT Tryz.prog 157 0 = some (0, 2) := by kernel_rfl
theorem gF_N_1 : fieldT Tryz.prog 157 1 = some (2, 1) := by kernel_rfl
theorem gP_N : structT Tryz.prog 157 = some [(0, 2), (2, 1)] := by kernel_rfl
theorem gI_N : (Tryz.prog.info? 157).bind (·.zero) = some (.agg #[.slice none 0 0, .slice none 0 0, .bool false]) := by kernel_rfl
theorem gZ_N (w : World) (I : Nat → Prop) : RepAll w I [.sl [], .sl [], .b false] (Value.agg #[.slice none 0 0, .slice none 0 0, .bool false]).cells.toList := .cons (.sl0 _ _) (.cons (.sl0 _ _) (.cons (.b _) (.nil)))
theorem ga_L : aggT Tryz.prog 30 = some false := by kernel_rfl
theorem gs_L : sliceT Tryz.prog 30 = some (121, 1, 4) := by kernel_rfl
theorem gu_L : Tryz.prog.underlying 30 = some (.slice (Tryz.prog.elem 30)) := by kernel_rfl
theorem ge_LL : elemT Tryz.prog 87 = some (30, 1, 24, .slice none 0 0) := by kernel_rfl
theorem ge_RVs : elemT Tryz.prog 180 = some (32, 3, 56, .agg #[.bool false, .slice none 0 0, .slice none 0 0]) := by kernel_rfl
theorem RVs_flat (xs : List RT) : ∀ d ∈ RVs xs, d.flat = true ∧ d.cells.length = 3 := fun x hx => by
  simp only [RVs, List.mem_map] at hx
  obtain ⟨n, _, rfl⟩ := hx
  exact ⟨by simp [DV.flat, DV.cells, DV.leaf], rfl⟩
end Go.FL
/-
  Texts and their numbers.
-/
namespace Go.FL
open Go Go.Proofs

def pv : List Nat → Nat → Option Nat
  | [], n => some n
  | c :: r, n => if 48 ≤ c ∧ c ≤ 57 then pv r (n * 10 + (c - 48)) else none
end Go.FL
/-
  nat.Parse; glyphref01's Parse, Print.
-/
namespace Go.FL
open Go Go.Proofs

end Go.FL
/-
  glyphref01.Print.
-/
namespace Go.FL
open Go Go.Proofs

end Go.FL
/-
  GP, 3: the contracts of numbers that were proved by hand, in the printed form.
-/
namespace Go.FL
open Go Go.Proofs

def okL (k : Nat) (a : List Nat) : Bool := a.all (fun x => decide (x < 4294967296)) && decide (a.length ≤ k)
theorem okL_iff {k : Nat} {a : List Nat} : okL k a = true ↔ Ok a ∧ a.length ≤ k := by simp [okL, Ok]
theorem okL_all {k : Nat} {ls : List (List Nat)} (h : ls.all (okL k) = true) : (∀ a ∈ ls, Ok a) ∧ ∀ a ∈ ls, a.length ≤ k :=
  ⟨fun a ha => (okL_iff.1 (List.all_eq_true.1 h a ha)).1, fun a ha => (okL_iff.1 (List.all_eq_true.1 h a ha)).2⟩
def okRB (r : RT) : Bool := okL 35184372087808 r.2.1 && okL 35184372087808 r.2.2
theorem okRB_iff {r : RT} : okRB r = true ↔ okR r := by
  simp only [okRB, Bool.and_eq_true, okL_iff, okR]
  exact ⟨fun ⟨⟨a, b⟩, c, d⟩ => ⟨a, c, b, d⟩, fun ⟨a, c, b, d⟩ => ⟨⟨a, b⟩, c, d⟩⟩
theorem okRB_all {rs : List RT} (h : rs.all okRB = true) : ∀ r ∈ rs, okR r := fun r hr => okRB_iff.1 (List.all_eq_true.1 h r hr)
abbrev qR (q : Q3) : RT := (q.1, digs q.2.1, digs q.2.2)
def resQ : QE → RT × Int
  | .error e => ((false, [], []), e)
  | .ok q => (qR q, 0)
theorem resQ_D (x : QE) : (resD x).map AV.d = [AV.d (.ag [.b (resQ x).1.1, .sl (L (resQ x).1.2.1), .sl (L (resQ x).1.2.2)]), .d (.i .i64 (resQ x).2)] := by cases x <;> rfl
abbrev numQ (n : (List Nat × List Nat) × Bool) : Q3 := (n.2, val n.1.1, val n.1.2)
abbrev qN (q : Q3) : (List Nat × List Nat) × Bool := ((digs q.2.1, digs q.2.2), q.1)

def nProduct (ls : List (List Nat)) : Option (List Nat) := if (ls.all (okL 40000) && decide (ls.length ≤ 10)) = true then some (digs (prodF ls 1)) else none
theorem nProduct_ok {ls : List (List Nat)} {r : List Nat} (h : nProduct ls = some r) : Fn Tryz.prog 166 [.sl (LL ls)] (.d (.sl (L r))) := by
  obtain ⟨hc, h⟩ := ite_n h
  cases h
  rw [Bool.and_eq_true, decide_eq_true_eq] at hc
  obtain ⟨h1, h2⟩ := okL_all hc.1
  exact prods_fn h1 h2 hc.2 (by decide)

def nSum (ls : List (List Nat)) : Option (List Nat) := if (ls.all (okL 100000) && decide (ls.length ≤ 1000)) = true then some (digs (ls.map val).sum) else none
theorem nSum_ok {ls : List (List Nat)} {r : List Nat} (h : nSum ls = some r) : Fn Tryz.prog 165 [.sl (LL ls)] (.d (.sl (L r))) := by
  obtain ⟨hc, h⟩ := ite_n h
  cases h
  rw [Bool.and_eq_true, decide_eq_true_eq] at hc
  obtain ⟨h1, h2⟩ := okL_all hc.1
  exact sum_fn h1 h2 hc.2 (by decide)

def nMinus (a : List Nat) (b : List Nat) : Option (List Nat × Bool) := if (okL 500000 a && okL 500000 b) = true then some ((digs (minN (val a) (val b)), decide (val b ≤ val a))) else none
theorem nMinus_ok {a : List Nat} {b : List Nat} {r : List Nat × Bool} (h : nMinus a b = some r) : Fn Tryz.prog 209 [.sl (L a), .sl (L b)] (.tup [.d (.sl (L r.1)), .d (.b r.2)]) := by
  obtain ⟨hc, h⟩ := ite_n h
  cases h
  rw [Bool.and_eq_true] at hc
  obtain ⟨⟨h1, h2⟩, h3, h4⟩ := And.intro (okL_iff.1 hc.1) (okL_iff.1 hc.2)
  exact Minus_fn h1 h3 (by omega) (by omega)

def nDivMod (a : List Nat) (b : List Nat) : Option (List Nat × List Nat × Bool) := if (okL 500000 a && okL 500000 b) = true then some ((digs (val a / val b), digs (remN (val a) (val b)), decide (val b ≠ 0))) else none
theorem nDivMod_ok {a : List Nat} {b : List Nat} {r : List Nat × List Nat × Bool} (h : nDivMod a b = some r) : Fn Tryz.prog 199 [.sl (L a), .sl (L b)] (.tup [.d (.sl (L r.1)), .d (.sl (L r.2.1)), .d (.b r.2.2)]) := by
  obtain ⟨hc, h⟩ := ite_n h
  cases h
  rw [Bool.and_eq_true] at hc
  obtain ⟨⟨h1, h2⟩, h3, h4⟩ := And.intro (okL_iff.1 hc.1) (okL_iff.1 hc.2)
  exact DivMod_fn h1 h3 (by omega) (by omega)

def nCompare (a : List Nat) (b : List Nat) : Option (Int) := if (okL 35184372087808 a && okL 35184372087808 b) = true then some (cmpN (val a) (val b)) else none
theorem nCompare_ok {a : List Nat} {b : List Nat} {r : Int} (h : nCompare a b = some r) : Fn Tryz.prog 164 [.sl (L a), .sl (L b)] (.d (.i .i64 r)) := by
  obtain ⟨hc, h⟩ := ite_n h
  cases h
  rw [Bool.and_eq_true] at hc
  obtain ⟨⟨h1, h2⟩, h3, h4⟩ := And.intro (okL_iff.1 hc.1) (okL_iff.1 hc.2)
  exact Compare_fn h1 h3 (by omega) (by omega)

def nSmall (a : List Nat) : Option (Int × Bool) := if okL 1048576 a = true then some (((smallN a : Nat), decide (bitsN (val a) ≤ 63))) else none
theorem nSmall_ok {a : List Nat} {r : Int × Bool} (h : nSmall a = some r) : Fn Tryz.prog 207 [.sl (L a)] (.tup [.d (.i .i64 r.1), .d (.b r.2)]) := by
  obtain ⟨hc, h⟩ := ite_n h
  cases h
  obtain ⟨h1, h2⟩ := okL_iff.1 hc
  exact Small_fn h1 (by omega)

def nPower (a : List Nat) (n : Int) (m : Int) : Option (List Nat × Bool) := if (okL 1000 a && decide (n < 9223372036854775808 ∧ 0 ≤ m ∧ m ≤ 1000)) = true then some (if n < 0 then ([], false) else (digs (pwV (val a) n.toNat m.toNat), decide (pwOK (val a) n.toNat m.toNat))) else none
theorem nPower_ok {a : List Nat} {n : Int} {m : Int} {r : List Nat × Bool} (h : nPower a n m = some r) : Fn Tryz.prog 208 [.sl (L a), .i .i64 n, .i .i64 m] (.tup [.d (.sl (L r.1)), .d (.b r.2)]) := by
  obtain ⟨hc, h⟩ := ite_n h
  cases h
  rw [Bool.and_eq_true, decide_eq_true_eq] at hc
  obtain ⟨h1, h2⟩ := okL_iff.1 hc.1
  by_cases hn : n < 0
  · rw [if_pos hn]; exact PowerNeg_fn h1 (by omega) hn
  rw [if_neg hn]
  have := Power_fn h1 (by omega) (n := n.toNat) (most := m.toNat) (by omega) (by omega)
  rw [Int.toNat_of_nonneg (by omega), Int.toNat_of_nonneg (by omega)] at this
  exact this

def ratOne : Option (List Nat) := if True then some ([1]) else none
theorem ratOne_ok {r : List Nat} (h : ratOne = some r) : Fn Tryz.prog 121 [] (.own 121 (L r)) := by
  obtain ⟨hc, h⟩ := ite_n h
  cases h
  exact one_fn

def ratOf (a : RT) : Option ((List Nat × List Nat) × Bool) := if True then some (((a.2.1, a.2.2), a.1)) else none
theorem ratOf_ok {a : RT} {r : (List Nat × List Nat) × Bool} (h : ratOf a = some r) : Fn Tryz.prog 168 [.ag [.b a.1, .sl (L a.2.1), .sl (L a.2.2)]] (.d (.ag [.sl (L r.1.1), .sl (L r.1.2), .b r.2])) := by
  obtain ⟨hc, h⟩ := ite_n h
  cases h
  exact of_fn _ _ _

def ratLowest (a : (List Nat × List Nat) × Bool) : Option (RT × Int) := if (okL 100000 a.1.1 && okL 100000 a.1.2) = true then some (resQ (lowE a.2 (val a.1.1) (val a.1.2))) else none
theorem ratLowest_ok {a : (List Nat × List Nat) × Bool} {r : RT × Int} (h : ratLowest a = some r) : Fn Tryz.prog 170 [.ag [.sl (L a.1.1), .sl (L a.1.2), .b a.2]] (.tup [.d (.ag [.b r.1.1, .sl (L r.1.2.1), .sl (L r.1.2.2)]), .d (.i .i64 r.2)]) := by
  obtain ⟨hc, h⟩ := ite_n h
  cases h
  rw [Bool.and_eq_true] at hc
  obtain ⟨⟨h1, h2⟩, h3, h4⟩ := And.intro (okL_iff.1 hc.1) (okL_iff.1 hc.2)
  have := lowest_fn (b := a.2) h1 h3 h2 h4 (by decide)
  rw [lowN_res, resQ_D] at this
  exact this

def ratLess (a : (List Nat × List Nat) × Bool) : Option ((List Nat × List Nat) × Bool) := if True then some ((a.1, !a.2)) else none
theorem ratLess_ok {a : (List Nat × List Nat) × Bool} {r : (List Nat × List Nat) × Bool} (h : ratLess a = some r) : Fn Tryz.prog 205 [.ag [.sl (L a.1.1), .sl (L a.1.2), .b a.2]] (.d (.ag [.sl (L r.1.1), .sl (L r.1.2), .b r.2])) := by
  obtain ⟨hc, h⟩ := ite_n h
  cases h
  exact less_fn _ _ _

def ratPlus (a : (List Nat × List Nat) × Bool) (b : (List Nat × List Nat) × Bool) : Option ((List Nat × List Nat) × Bool) := if (okL 4000 a.1.1 && okL 4000 a.1.2 && (okL 4000 b.1.1 && okL 4000 b.1.2)) = true then some (qN (plusN (numQ a) (numQ b))) else none
theorem ratPlus_ok {a : (List Nat × List Nat) × Bool} {b : (List Nat × List Nat) × Bool} {r : (List Nat × List Nat) × Bool} (h : ratPlus a b = some r) : Fn Tryz.prog 204 [.ag [.sl (L a.1.1), .sl (L a.1.2), .b a.2], .ag [.sl (L b.1.1), .sl (L b.1.2), .b b.2]] (.d (.ag [.sl (L r.1.1), .sl (L r.1.2), .b r.2])) := by
  obtain ⟨hc, h⟩ := ite_n h
  cases h
  simp only [Bool.and_eq_true, okL_iff] at hc
  obtain ⟨⟨⟨h1, h2⟩, h3, h4⟩, ⟨h5, h6⟩, h7, h8⟩ := hc
  exact plus_fn h1 h3 h5 h7 h2 h4 h6 h8

def ratTimes (a : (List Nat × List Nat) × Bool) (b : (List Nat × List Nat) × Bool) : Option ((List Nat × List Nat) × Bool) := if (okL 4000 a.1.1 && okL 4000 a.1.2 && (okL 4000 b.1.1 && okL 4000 b.1.2)) = true then some (qN (timesN (numQ a) (numQ b))) else none
theorem ratTimes_ok {a : (List Nat × List Nat) × Bool} {b : (List Nat × List Nat) × Bool} {r : (List Nat × List Nat) × Bool} (h : ratTimes a b = some r) : Fn Tryz.prog 169 [.ag [.sl (L a.1.1), .sl (L a.1.2), .b a.2], .ag [.sl (L b.1.1), .sl (L b.1.2), .b b.2]] (.d (.ag [.sl (L r.1.1), .sl (L r.1.2), .b r.2])) := by
  obtain ⟨hc, h⟩ := ite_n h
  cases h
  simp only [Bool.and_eq_true, okL_iff] at hc
  obtain ⟨⟨⟨h1, h2⟩, h3, h4⟩, ⟨h5, h6⟩, h7, h8⟩ := hc
  exact times_fn h1 h3 h5 h7 h2 h4 h6 h8

def ratCross (a : List Nat × List Nat) (b : List Nat × List Nat) : Option (List Nat) := if (okL 4000 a.1 && okL 4000 b.2) = true then some (digs (val a.1 * val b.2)) else none
theorem ratCross_ok {a : List Nat × List Nat} {b : List Nat × List Nat} {r : List Nat} (h : ratCross a b = some r) : Fn Tryz.prog 239 [.ag [.sl (L a.1), .sl (L a.2)], .ag [.sl (L b.1), .sl (L b.2)]] (.d (.sl (L r))) := by
  obtain ⟨hc, h⟩ := ite_n h
  cases h
  simp only [Bool.and_eq_true, okL_iff] at hc
  exact cross_fn hc.1.1 hc.2.1 hc.1.2 hc.2.2

def sEqualL (a : List Nat) (b : List Nat) : Option (Bool) := if (okL 1048576 a && okL 35184372087808 b) = true then some (decide (a = b)) else none
theorem sEqualL_ok {a : List Nat} {b : List Nat} {r : Bool} (h : sEqualL a b = some r) : Fn Tryz.prog 112 [.sl (L a), .sl (L b)] (.d (.b r)) := by
  obtain ⟨hc, h⟩ := ite_n h
  cases h
  simp only [Bool.and_eq_true, okL_iff] at hc
  exact Equal_fn a b hc.1.2 hc.1.1 hc.2.1

def sCloneL (a : List Nat) : Option (List Nat) := if a.length ≤ 35184372087808 then some (a) else none
theorem sCloneL_ok {a : List Nat} {r : List Nat} (h : sCloneL a = some r) : Fn Tryz.prog 215 [.sl (L a)] (.own 121 (L r)) := by
  obtain ⟨hc, h⟩ := ite_n h
  cases h
  exact clone_fn _ hc

def ratRight (a : RT) : Option (Bool) := if okRB a = true then some (rightR a) else none
theorem ratRight_ok {a : RT} {r : Bool} (h : ratRight a = some r) : Fn Tryz.prog 45 [.ag [.b a.1, .sl (L a.2.1), .sl (L a.2.2)]] (.d (.b r)) := by
  obtain ⟨hc, h⟩ := ite_n h
  cases h
  obtain ⟨h1, h2, h3, h4⟩ := okRB_iff.1 hc
  exact RRight_fn h1 h2 h3 h4

def ref2Right (a : RT) : Option (Bool) := if okRB a = true then some (rightR a) else none
theorem ref2Right_ok {a : RT} {r : Bool} (h : ref2Right a = some r) : Fn Tryz.prog 19 [.ag [.b a.1, .sl (L a.2.1), .sl (L a.2.2)]] (.d (.b r)) := by
  obtain ⟨hc, h⟩ := ite_n h
  cases h
  obtain ⟨h1, h2, h3, h4⟩ := okRB_iff.1 hc
  exact refRR_fn h1 h2 h3 h4

def ratAllRight (rs : List RT) : Option (Bool) := if (rs.all okRB && decide (rs.length ≤ 1048576)) = true then some (rs.all rightR) else none
theorem ratAllRight_ok {rs : List RT} {r : Bool} (h : ratAllRight rs = some r) : Fn Tryz.prog 167 [.sl (RVs rs)] (.d (.b r)) := by
  obtain ⟨hc, h⟩ := ite_n h
  cases h
  rw [Bool.and_eq_true, decide_eq_true_eq] at hc
  exact right_fn (okRB_all hc.1) hc.2

def ratOfInt (z : Int) : Option (RT) := if -9223372036854775808 ≤ z ∧ z ≤ 9223372036854775807 then some ((decide (z < 0), digs z.natAbs, [1])) else none
theorem ratOfInt_ok {z : Int} {r : RT} (h : ratOfInt z = some r) : Fn Tryz.prog 72 [.i .i64 z] (.d (.ag [.b r.1, .sl (L r.2.1), .sl (L r.2.2)])) := by
  obtain ⟨hc, h⟩ := ite_n h
  cases h
  exact OfInt_fn hc.1 hc.2

def ref2Zero : Option (RT) := if True then some ((false, [], [1])) else none
theorem ref2Zero_ok {r : RT} (h : ref2Zero = some r) : Fn Tryz.prog 33 [] (.d (.ag [.b r.1, .sl (L r.2.1), .sl (L r.2.2)])) := by
  obtain ⟨hc, h⟩ := ite_n h
  cases h
  exact refZero_fn

def ratAdd (rs : List RT) : Option (RT × Int) := if (rs.all okRB && decide (rs.length ≤ 1048576)) = true then some (resQ (addE rs)) else none
theorem ratAdd_ok {rs : List RT} {r : RT × Int} (h : ratAdd rs = some r) : Fn Tryz.prog 133 [.sl (RVs rs)] (.tup [.d (.ag [.b r.1.1, .sl (L r.1.2.1), .sl (L r.1.2.2)]), .d (.i .i64 r.2)]) := by
  obtain ⟨hc, h⟩ := ite_n h
  cases h
  rw [Bool.and_eq_true, decide_eq_true_eq] at hc
  have := RAdd_fn (okRB_all hc.1) hc.2
  rw [resQ_D] at this
  exact this

def ratMul (rs : List RT) : Option (RT × Int) := if (rs.all okRB && decide (rs.length ≤ 1048576)) = true then some (resQ (mulE rs)) else none
theorem ratMul_ok {rs : List RT} {r : RT × Int} (h : ratMul rs = some r) : Fn Tryz.prog 135 [.sl (RVs rs)] (.tup [.d (.ag [.b r.1.1, .sl (L r.1.2.1), .sl (L r.1.2.2)]), .d (.i .i64 r.2)]) := by
  obtain ⟨hc, h⟩ := ite_n h
  cases h
  rw [Bool.and_eq_true, decide_eq_true_eq] at hc
  have := RMul_fn (okRB_all hc.1) hc.2
  rw [resQ_D] at this
  exact this

end Go.FL
/-
  Arguments that are numbers, opened.
-/
namespace Go.FL
open Go Go.Proofs

section
variable {H : Type} {enc : TypeId × Value → H} {W : World}
theorem op_limbs0 {n : Nat} : OpF enc Tryz.prog W (n + 1) 30 (fun a : List Nat => [.sl (L a)]) (fun a => okL 35184372087808 a = true) := by
  refine (op_slice (α := Int) (F := fun z => [.i .u32 z]) (sz := 1) (fun z => .i .u32 z) (by kernel_rfl : Tryz.prog.underlying 30 = some (.slice 121)) (by kernel_rfl) (by decide) (fun _ => rfl) (op_int (by kernel_rfl))).map fun zs hz => ?_
  obtain ⟨a, h1, h2⟩ := as_limbs zs hz.1
  refine ⟨a, okL_iff.2 ⟨h1, ?_⟩, by rw [← h2]⟩
  have h3 := hz.2
  rw [show Tryz.prog.bytesOf 121 = 4 by kernel_rfl, show reachBytes = 140737488351232 by decide] at h3
  have := congrArg List.length h2
  rw [List.length_map, L_length] at this
  omega
theorem op_limbs (n : Nat) : OpF enc Tryz.prog W n 30 (fun a : List Nat => [.sl (L a)]) (fun a => okL 35184372087808 a = true) := op_limbs0.mono (Nat.le_succ n)
theorem op_rat (n : Nat) : OpF enc Tryz.prog W n 32 (fun r : RT => [.b r.1, .sl (L r.2.1), .sl (L r.2.2)]) (fun r => okRB r = true) := by
  refine OpF.mono (n := n + 1) ((op_struct3 (t := 32) (T0 := 4) (T1 := 30) (T2 := 30) (s0 := 1) (s1 := 1) (s2 := 1) (by kernel_rfl) (by kernel_rfl) (by kernel_rfl) (op_bool (by kernel_rfl)) (by kernel_rfl) (op_limbs n) (by kernel_rfl) (op_limbs n)).map fun r hr => ?_) (Nat.le_succ n)
  exact ⟨r, by rw [okRB, hr.2.1, hr.2.2]; rfl, rfl⟩
end
end Go.FL
/-
  A FUNCTIONAL LOGIC, 42: iterators that make memory of their own, and rounds that end a loop.
-/
namespace Go.FL
open Go Go.RowKit

section
variable {P : Program} {C : Cx} {X : Snap} {o : Oper} {ops : Array Oper} {Q : Exit → Env → Heap → Prop} {env env' : Env} {H H' : Heap} {a : Act} {w w' : World} {I I' : Nat → Prop} {μ μ' : List Nat} {O O' : Nat → Option Loc}

theorem Sim.grow2 {Kb : Nat → Prop} (hs : Sim P X env H a w I μ O) (hK : ∀ b, Kb b → O b = none ∧ ¬ X.K b ∧ ¬ I b) (hsz : w.heap.size ≤ w'.heap.size) (hb : ∀ b, b < w.heap.size → ¬ Kb b → w'.heap[b]? = w.heap[b]?)
    (hos : w'.os = w.os) (htp : w'.tape = w.tape) (hout : w'.output = w.output) (hI : ∀ b, I b → I' b) (hI2 : ∀ b, I' b → b < w'.heap.size) (hI3 : ∀ b, b < w.heap.size → ¬ Kb b → I' b → I b) : Sim P X env H a w' I' μ O := by
  have hXK : ∀ b, X.K b → w'.heap[b]? = w.heap[b]? := fun b hk => hb b (Nat.lt_of_lt_of_le (hs.klt b hk) hs.size) fun h => (hK b h).2.1 hk
  have hII : ∀ b, I b → w'.heap[b]? = w.heap[b]? := fun b hi => hb b (hs.ilt b hi) fun h => (hK b h).2.2 hi
  have hOO : ∀ b l, O b = some l → w'.heap[b]? = w.heap[b]? := fun b l h => hb b (hs.own b l h).1 fun hk => by rw [(hK b hk).1] at h; cases h
  have hobj : ∀ (id : Nat) o, H[id]? = some o → ∃ blk bs, μ[id]? = some blk ∧ ORep P w I μ o blk bs ∧ (X.n0 ≤ id → (blk :: bs).Nodup ∧ ∀ b ∈ blk :: bs, O b = some (.o id)) ∧ (id < X.n0 → ∀ b ∈ blk :: bs, X.K b) ∧ ∀ b ∈ blk :: bs, w'.heap[b]? = w.heap[b]? := fun id o ho => by
    obtain ⟨blk, bs, h1, h2, h3, h4⟩ := hs.heap id o ho
    refine ⟨blk, bs, h1, h2, h3, h4, fun b hm => ?_⟩
    rcases Nat.lt_or_ge id X.n0 with hlt | hge
    · exact hXK b (h4 hlt b hm)
    · exact hOO b _ ((h3 hge).2 b hm)
  refine ⟨{
    prot := fun b hk => (hXK b hk).trans (hs.prot b hk)
    kO := hs.kO
    kI := fun b hk hi => hs.kI b hk (hI3 b (Nat.lt_of_lt_of_le (hs.klt b hk) hs.size) (fun h => (hK b h).2.1 hk) hi)
    mono := fun b hi => hI b (hs.mono b hi)
    os := hos.trans hs.os, tape := htp.trans hs.tape, output := hout.trans hs.output, size := Nat.le_trans hs.size hsz
    own := fun b l h => ⟨Nat.lt_of_lt_of_le (hs.own b l h).1 hsz, fun hi => (hs.own b l h).2 (hI3 b (hs.own b l h).1 (fun hk => by rw [(hK b hk).1] at h; cases h) hi)⟩
    ilt := hI2, μlen := hs.μlen, μpre := hs.μpre, nle := hs.nle
    heap := fun id o ho => by
      obtain ⟨blk, bs, h1, h2, h3, h4, h5⟩ := hobj id o ho
      refine ⟨blk, bs, h1, ?_, h3, h4⟩
      cases o with
      | box cs =>
        obtain ⟨cells, e, k1, k2⟩ := h2
        exact ⟨cells, e, (h5 blk (by simp)).trans k1, k2.keep hI hII (fun _ _ h => h) fun b hm => h5 b (by simp [hm])⟩
    klt := hs.klt, n0le := hs.n0le }, fun t => ?_, hs.nt, hs.dfs⟩
  refine (hs.envr t).keepG hI hII (fun _ _ h => h) (fun b hm => ⟨hOO b _ hm, hm⟩) fun p e xs hp => ⟨hp, fun v hv => ?_⟩
  cases p with
  | t r => exact hv
  | c id off =>
    simp only [plVal, Option.bind_eq_some_iff] at hv ⊢
    obtain ⟨b, hb1, hb2⟩ := hv
    refine ⟨b, hb1, ?_⟩
    simp only [plAV] at hp
    cases hH : H[id]? with
    | none => rw [hH] at hp; cases hp
    | some ob =>
      obtain ⟨blk, bs, h1, _, _, _, h5⟩ := hobj id ob hH
      rw [hb1] at h1; cases h1
      rw [World.cell?_of_block (w := w) (a := ⟨b, off, none⟩) (h5 b (by simp))]
      exact hb2

abbrev JT := Nat → World → (Nat → Prop) → (Nat → Prop) → Prop
def JOK (J : JT) : Prop := ∀ {k : Nat} {W : World} {I K : Nat → Prop} {W' : World} {I' K' : Nat → Prop}, J k W I K → W.heap.size ≤ W'.heap.size → (∀ b, b < W.heap.size → ¬ K b → W'.heap[b]? = W.heap[b]?) →
  W'.os = W.os → W'.tape = W.tape → W'.output = W.output → (∀ b, I b → I' b) → (∀ b, I' b → b < W'.heap.size) → (∀ b, b < W.heap.size → ¬ K b → I' b → I b) → (∀ b, K' b → b < W'.heap.size ∧ ¬ I' b) → (∀ b, K' b → b < W.heap.size → K b) → J k W' I' K'
def Round1 (P : Program) (l : Nat) (J : JT) (k : Nat) (b : Bool) (ds : List DV) : Prop := ∀ (W : World) (I K : Nat → Prop) (vs : List Value), J k W I K → RepAll W I ds vs →
  YieldAt (om none) 0 P l vs.toArray W fun e W' => e = .returned (.bool b) ∧ ∃ I', J (k + 1) W' I' K ∧ (∀ b, K b → W'.heap[b]? = W.heap[b]? ∧ ¬ I' b) ∧ (∀ b, I b → I' b ∧ W'.heap[b]? = W.heap[b]?) ∧ W.heap.size ≤ W'.heap.size ∧ ∀ b, I' b → b < W'.heap.size
def ItG (P : Program) (f : FuncId) (caps : List DV) (ys : List (List DV)) (n : Nat) : Prop :=
  ∀ (l : Nat) (W : World) (I : Nat → Prop) (cv : List Value) (J : JT), JOK J → RepAll W I caps cv → (∀ b, I b → b < W.heap.size) → (∀ k ds, ys[k]? = some ds → k ≤ n → Round1 P l J k (decide (k < n)) ds) → J 0 W I (fun _ => False) →
    CallsIn (om none) 0 P f (#[.func (.yield l) #[] #[]] ++ cv.toArray) W fun e W' => (∃ v, e = .returned v) ∧ ∃ I' K', J (min (n + 1) ys.length) W' I' K'

/-! ### the iterator's side -/
def JX (J : JT) (k : Nat) (X : Snap) : Prop := ∃ K, J k X.w X.I K ∧ ∀ b, b < X.w.heap.size → ¬ X.K b → K b
def XJ (J : JT) (nt : Nat × Nat) (ags : List Value) (k : Nat) (X : Snap) : Prop := X.nt = nt ∧ X.n0 = 0 ∧ X.ne = 0 ∧ X.dfs = [] ∧ X.args = ags ∧ JX J k X
def PostJ (P : Program) (nt : Nat × Nat) (J : JT) (ags : List Value) (Q : Exit → Env → Heap → Nat → Prop) : Exit → Act → World → Prop := fun e a w =>
  ∃ X env H I μ O k, XJ J nt ags k X ∧ Sim P X env H a w I μ O ∧ Q e env H k
def AWJ (P : Program) (nt : Nat × Nat) (J : JT) (ags : List Value) (c : Code) (Q : Exit → Env → Heap → Nat → Prop) (env : Env) (H : Heap) (k : Nat) : Prop :=
  ∀ X a w I μ O, XJ J nt ags k X → Sim P X env H a w I μ O → c.wpIn (om none) 0 P (PostJ P nt J ags Q) a w
def ALJ (P : Program) (nt : Nat × Nat) (J : JT) (ags : List Value) (c : Code) (Q : Exit → Env → Heap → Nat → Prop) (env : Env) (H : Heap) (k : Nat) : Prop :=
  ∀ X a w I μ O, XJ J nt ags k X → Sim P X env H a w I μ O → LB (om none) 0 P c (PostJ P nt J ags Q) a w
def RLJ (P : Program) (nt : Nat × Nat) (J : JT) (ags : List Value) (ops : Array Oper) (Q : Exit → Env → Heap → Nat → Prop) (n : Nat) (l : List Oper) (env : Env) (H : Heap) (k : Nat) : Prop :=
  ops.toList.drop n = l → ∀ X a w I μ O, XJ J nt ags k X → Sim P X env H a w I μ O → wpOpsIn (om none) 0 P ops (PostJ P nt J ags Q) (List.range' n l.length) a w

def thenJ (K : Env → Heap → Nat → Prop) (Q : Exit → Env → Heap → Nat → Prop) : Exit → Env → Heap → Nat → Prop
  | .normal, env, H, k => K env H k
  | e, env, H, k => Q e env H k
def inBlkJ (id : Nat) (Q : Exit → Env → Heap → Nat → Prop) : Exit → Env → Heap → Nat → Prop
  | .exit id', env, H, k => if id' = id then Q .normal env H k else Q (.exit id') env H k
  | e, env, H, k => Q e env H k

variable {nt : Nat × Nat} {J : JT} {ags : List Value} {QJ : Exit → Env → Heap → Nat → Prop} {k n : Nat} {l : List Oper}

theorem AWJ.lift {c : Code} (h : AW P { nt := nt, n0 := 0, ne := 0 } c (fun e env H => QJ e env H k) env H) : AWJ P nt J ags c QJ env H k := fun X a w I μ O hx hs =>
  wpIn_mono (h X a w I μ O hx.1 hx.2.1 hx.2.2.1 hs) fun _ _ _ ⟨env, H, I, μ, O, s, q⟩ => ⟨X, env, H, I, μ, O, k, hx, s, q⟩
theorem AWJ.skip (h : QJ .normal env H k) : AWJ P nt J ags .skip QJ env H k := .lift (.skip h)
theorem AWJ.exit {id : Nat} (h : QJ (.exit id) env H k) : AWJ P nt J ags (.exit id) QJ env H k := .lift (.exit h)
theorem AWJ.ret (h : QJ .ret env H k) : AWJ P nt J ags .ret QJ env H k := .lift (.ret h)
theorem AWJ.seq {x y : Code} (h : AWJ P nt J ags x (thenJ (AWJ P nt J ags y QJ) QJ) env H k) : AWJ P nt J ags (.seq x y) QJ env H k := fun X a w I μ O hx hs =>
  wpIn_seq (wpIn_mono (h X a w I μ O hx hs) fun e _ _ ⟨X', env', H', I', μ', O', k', hx', s, q⟩ => by
    cases e with
    | normal => exact q X' _ _ I' μ' O' hx' s
    | _ => exact ⟨X', env', H', I', μ', O', k', hx', s, q⟩)
theorem AWJ.block {id : Nat} {c : Code} (h : AWJ P nt J ags c (inBlkJ id QJ) env H k) : AWJ P nt J ags (.block id c) QJ env H k := fun X a w I μ O hx hs =>
  wpIn_block (wpIn_mono (h X a w I μ O hx hs) fun e _ _ ⟨X', env', H', I', μ', O', k', hx', s, q⟩ => by
    cases e with
    | exit id' =>
      simp only [Exit.inBlock]
      simp only [inBlkJ] at q
      split
      · rename_i he; rw [if_pos he] at q; exact ⟨X', env', H', I', μ', O', k', hx', s, q⟩
      · rename_i he; rw [if_neg he] at q; exact ⟨X', env', H', I', μ', O', k', hx', s, q⟩
    | _ => exact ⟨X', env', H', I', μ', O', k', hx', s, q⟩)
theorem AWJ.cond {t : Nat} {x : Bool} {c1 c2 : Code} (hx : get env t = .d (.b x)) (h1 : x = true → AWJ P nt J ags c1 QJ env H k) (h2 : x = false → AWJ P nt J ags c2 QJ env H k) : AWJ P nt J ags (.cond (.tmp t) c1 c2) QJ env H k := fun X a w I μ O g hs =>
  wpIn_cond_split (t := x) (hs.bool hx) (fun e => h1 e X a w I μ O g hs) (fun e => h2 e X a w I μ O g hs)
theorem ALJ.loop {c : Code} (h : ALJ P nt J ags c QJ env H k) : AWJ P nt J ags (.loop c) QJ env H k := fun X a w I μ O hx hs => (h X a w I μ O hx hs).loop
theorem ALJ.round {c : Code} (h : AWJ P nt J ags c (thenJ (ALJ P nt J ags c QJ) QJ) env H k) : ALJ P nt J ags c QJ env H k := fun X a w I μ O hx hs =>
  .round (wpIn_mono (h X a w I μ O hx hs) fun e _ _ ⟨X', env', H', I', μ', O', k', hx', s, q⟩ => by
    cases e with
    | normal => exact q X' _ _ I' μ' O' hx' s
    | _ => exact ⟨X', env', H', I', μ', O', k', hx', s, q⟩)
theorem ALJ.ind {c : Code} {σ : Type} (m : σ → Nat) (e : σ → Env) (h : σ → Heap) (r : σ → Nat) (I : σ → Prop)
    (step : ∀ s, I s → (∀ s', I s' → m s' < m s → ALJ P nt J ags c QJ (e s') (h s') (r s')) → AWJ P nt J ags c (thenJ (ALJ P nt J ags c QJ) QJ) (e s) (h s) (r s)) : ∀ s, I s → ALJ P nt J ags c QJ (e s) (h s) (r s) := by
  suffices H : ∀ n s, m s = n → I s → ALJ P nt J ags c QJ (e s) (h s) (r s) from fun s hs => H _ s rfl hs
  intro n
  induction n using Nat.strongRecOn with
  | ind n ih =>
    intro s hm hs
    exact .round (step s hs fun s' h1 h2 => ih (m s') (by omega) s' rfl h1)
theorem AWJ.gh {c : Code} (g : Gh P { nt := nt, n0 := 0, ne := 0 } env H env' H') (h : AWJ P nt J ags c QJ env' H' k) : AWJ P nt J ags c QJ env H k := fun X a w I μ O hx hs =>
  let ⟨I', O', hs'⟩ := g X a w I μ O hx.1 hx.2.1 hx.2.2.1 hs; h X a w I' μ O' hx hs'
theorem ALJ.gh {c : Code} (g : Gh P { nt := nt, n0 := 0, ne := 0 } env H env' H') (h : ALJ P nt J ags c QJ env' H' k) : ALJ P nt J ags c QJ env H k := fun X a w I μ O hx hs =>
  let ⟨I', O', hs'⟩ := g X a w I μ O hx.1 hx.2.1 hx.2.2.1 hs; h X a w I' μ O' hx hs'
theorem AWJ.region {id : Nat} {ops : Array Oper} (h : RLJ P nt J ags ops QJ 0 ops.toList env H k) : AWJ P nt J ags (.region id ops false) QJ env H k := fun X a w I μ O hx hs => by
  refine wpIn_region ?_
  rw [List.range_eq_range', ← Array.length_toList]
  exact h rfl X a w I μ O hx hs
theorem RLJ.nil (h : QJ .normal env H k) : RLJ P nt J ags ops QJ n [] env H k := fun _ X _ _ I μ O hx hs => ⟨X, env, H, I, μ, O, k, hx, hs, h⟩
theorem RLJ.cons (hg : o.guard = none) (h : OpOK P { nt := nt, n0 := 0, ne := 0 } o env H fun e h => RLJ P nt J ags ops QJ (n + 1) l e h k) : RLJ P nt J ags ops QJ n (o :: l) env H k := by
  intro hl X a w I μ O hx hs
  obtain ⟨e1, e2⟩ := drop_cons hl
  rw [List.length_cons, List.range'_succ]
  have e1' : ops[n]? = some o := by simpa using e1
  simp only [wpOpsIn, e1', Region.wanted, hg, if_true]
  exact h X a w I μ O _ _ hx.1 hx.2.1 hx.2.2.1 hs fun env' H' a' w' I' μ' O' hs' hK => hK e2 X a' w' I' μ' O' hx hs'
theorem vkJ {av : AV} {t : Nat} (hv : VOK P { nt := nt, n0 := 0, ne := 0 } o env H av) (h : RLJ P nt J ags ops QJ (n + 1) l ((t, av) :: env) H k) (hg : o.guard = none := by rfl) (hd : o.dst = some t := by rfl) (hr : isRef av = false := by rfl)
    (hf : isOwn (get env t) = false := by rfl) (ht : okT nt t := by rfl) : RLJ P nt J ags ops QJ n (o :: l) env H k := by
  rw [← put_cons hf] at h
  exact .cons hg (.vok hv hr hd ht h)

theorem Sim.yielded' (hs : Sim P X env H a w I μ O) (h0 : X.n0 = 0) (hsz : w.heap.size ≤ w'.heap.size) (hO : ∀ b, O b ≠ none → w'.heap[b]? = w.heap[b]? ∧ ¬ I' b) (hI : ∀ b, I b → I' b ∧ w'.heap[b]? = w.heap[b]?) (hI2 : ∀ b, I' b → b < w'.heap.size) :
    Sim P { X with w := w', I := I', K := fun b => b < w'.heap.size ∧ O b = none, ne := 0, μ := μ } env H a w' I' μ O := by
  have hII : ∀ b, I b → w'.heap[b]? = w.heap[b]? := fun b hi => (hI b hi).2
  have hOO : ∀ b l, O b = some l → w'.heap[b]? = w.heap[b]? := fun b l h => (hO b (by rw [h]; simp)).1
  refine ⟨{
    prot := fun _ _ => rfl
    kO := fun b hk => hk.2
    kI := fun _ _ h => h
    mono := fun _ h => h
    os := rfl, tape := rfl, output := rfl, size := Nat.le_refl _
    own := fun b l h => ⟨Nat.lt_of_lt_of_le (hs.own b l h).1 hsz, (hO b (by rw [h]; simp)).2⟩
    ilt := hI2, μlen := hs.μlen, μpre := fun _ _ _ h => h, nle := Nat.zero_le _
    heap := fun id o ho => by
      obtain ⟨blk, bs, h1, h2, h3, _⟩ := hs.heap id o ho
      have h5 : ∀ b ∈ blk :: bs, w'.heap[b]? = w.heap[b]? := fun b hm => hOO b _ ((h3 (by omega)).2 b hm)
      refine ⟨blk, bs, h1, ?_, fun _ => h3 (by omega), fun h => absurd h (by simp [h0])⟩
      cases o with
      | box cs =>
        obtain ⟨cells, e, k1, k2⟩ := h2
        exact ⟨cells, e, (h5 blk (by simp)).trans k1, k2.keep (fun b hi => (hI b hi).1) hII (fun _ _ h => h) fun b hm => h5 b (by simp [hm])⟩
    klt := fun b hk => hk.1, n0le := by simp [h0] }, fun t => ?_, hs.nt, hs.dfs⟩
  refine (hs.envr t).keepG (fun b hi => (hI b hi).1) hII (fun _ _ h => h) (fun b hm => ⟨hOO b _ hm, hm⟩) fun p e xs hp => ⟨hp, fun v hv => ?_⟩
  cases p with
  | t r => exact hv
  | c id off =>
    simp only [plVal, Option.bind_eq_some_iff] at hv ⊢
    obtain ⟨b, hb1, hb2⟩ := hv
    refine ⟨b, hb1, ?_⟩
    simp only [plAV] at hp
    cases hH : H[id]? with
    | none => rw [hH] at hp; cases hp
    | some ob =>
      obtain ⟨blk, bs, h1, _, h3, _⟩ := hs.heap id ob hH
      rw [hb1] at h1; cases h1
      rw [World.cell?_of_block (w := w) (a := ⟨b, off, none⟩) (hOO b _ ((h3 (by omega)).2 b (by simp)))]
      exact hb2
theorem exec_yield {c : Call} {y lp : Nat} (ho : o.op = .call c) (hc : c.callee = .value (.tmp y)) (hy : a.eval (.tmp y) = .func (.yield lp) #[] #[]) :
    (execOp a.eval o).run P w = (Instr.yield lp (c.args.map a.eval)).run P w := by
  simp [execOp, ho, resolve, hc, hy, Deferred.ofValue, invoke, callFunc]
theorem yld {c : Call} {y lp t : Nat} {ds : List DV} {b : Bool} (hr : Round1 P lp J k b ds) (hJ : JOK J) (h : RLJ P nt J ags ops QJ (n + 1) l ((t, .d (.b b)) :: env) H (k + 1))
    (hg : o.guard = none := by rfl) (ho : o.op = .call c := by rfl) (hc : c.callee = .value (.tmp y) := by rfl) (hy : get env y = .d (.yl lp) := by rfl) (ha : argsD env c.args.toList = some ds := by rfl) (hd : o.dst = some t := by rfl)
    (hf : isOwn (get env t) = false := by rfl) (ht : okT nt t := by rfl) : RLJ P nt J ags ops QJ n (o :: l) env H k := by
  rw [← put_cons hf] at h
  intro hl X a w I μ O hx hs
  obtain ⟨e1, e2⟩ := drop_cons hl
  rw [List.length_cons, List.range'_succ]
  have e1' : ops[n]? = some o := by simpa using e1
  simp only [wpOpsIn, e1', Region.wanted, hg, if_true]
  obtain ⟨x1, x2, x3, x4, x5, K, hK1, hK2⟩ := hx
  have hyv : a.eval (.tmp y) = .func (.yield lp) #[] #[] := by
    have hyr := hs.deep (x := .tmp y) (v := .yl lp) (by show deepOf (get env y) = _; rw [hy]; rfl)
    generalize a.eval (.tmp y) = u at hyr
    cases hyr; rfl
  have hJw : J k w I fun b => O b ≠ none := hJ hK1 hs.size (fun b hb hnk => hs.prot b (Classical.byContradiction fun hx => hnk (hK2 b hb hx))) hs.os hs.tape hs.output hs.mono hs.ilt
    (fun b hb hnk hi => hs.kI b (Classical.byContradiction fun hx => hnk (hK2 b hb hx)) hi) (fun b hb => by
      cases hO : O b with
      | none => exact absurd hO hb
      | some l => exact hs.own b l hO) (fun b hb hlt => hK2 b hlt fun hk => hb (hs.kO b hk))
  obtain ⟨fn, tmps, assign, body, g1, g2⟩ := hr w I _ _ hJw (hs.argsD ha)
  refine ⟨fun _ _ => trivial, ?_⟩
  rw [Oper.semAt_eq _ _ _ (by simp [ho]), exec_yield ho hc hyv]
  have e3 : (c.args.toList.map a.eval).toArray = c.args.map a.eval := by apply Array.ext'; simp
  rw [e3] at g1
  rw [g1, Oper.uponIn_round]
  refine ⟨fun h => (by simp [om] at h), g2.mono ?_⟩
  rintro e W' ⟨rfl, I', j1, j2, j3, j4, j5⟩
  have s1 := hs.yielded' x2 j4 (fun b hb => j2 b hb) (fun b hb => j3 b hb) j5
  have s2 := s1.put_hand (t := t) (av := .d (.b b)) (v := .bool b) (by rw [x1]; exact ht) (Hand.d (.b b))
  show wpOpsIn (om none) 0 P ops _ _ (a.put o.dst _) _
  rw [hd]
  exact h e2 { X with w := W', I := I', K := fun b => b < W'.heap.size ∧ O b = none, ne := 0, μ := μ } _ _ _ _ _ ⟨x1, x2, rfl, x4, x5, fun b => O b ≠ none, j1, fun b hb hnk hO => hnk ⟨hb, hO⟩⟩ s2

theorem ItG.of {f : FuncId} {fn : Func} {c : Code} {caps : List DV} {ys : List (List DV)} {m nt : Nat} (hf : P.funcs[f]? = some fn) (hb : fn.body = some c) (hrs : fn.results = #[]) (hnt : fn.ntmps = nt) (hn : caps.length + 1 ≤ nt)
    (h : ∀ lp J, JOK J → (∀ k ds, ys[k]? = some ds → k ≤ m → Round1 P lp J k (decide (k < m)) ds) →
      AWJ P (0, nt) J [] c (fun e _ _ k => (e = .normal ∨ e = .ret) ∧ k = min (m + 1) ys.length) (argEnv 0 (.yl lp :: caps)) [] 0) : ItG P f caps ys m := by
  intro lp W I cv J hJ hcv hI hR h0
  refine callsIn_of_wp hf hb trivial ?_
  have hlen := hcv.length
  let vs : List Value := .func (.yield lp) #[] #[] :: cv
  have hargs : #[Value.func (.yield lp) #[] #[]] ++ cv.toArray = vs.toArray := by apply Array.ext'; simp [vs]
  rw [hargs]
  have hvr : RepAll W I (.yl lp :: caps) vs := .cons (.yl lp) hcv
  let X : Snap := { w := W, I := I, K := fun b => b < W.heap.size, n0 := 0, ne := 0, μ := [], nt := (0, nt), dfs := [], args := [] }
  let a : Act := { tmps := vs.toArray ++ Array.replicate (fn.ntmps - vs.toArray.size) undef, defers := [] }
  have hat : ∀ (j : Nat) (v : Value), vs[j]? = some v → a.tmps.getD j undef = v := fun j v hj => by
    have hjl : j < vs.length := (List.getElem?_eq_some_iff.1 hj).1
    have e2 : (vs.toArray ++ Array.replicate (fn.ntmps - vs.length) undef)[j]? = some v := by
      rw [Array.getElem?_append_left (by simpa using hjl)]; simpa using hj
    simp [a, e2]
  have hs : Sim P X (argEnv 0 (.yl lp :: caps)) [] a W I [] (fun _ => none) := by
    refine ⟨{ prot := fun _ _ => rfl, kO := fun _ _ => rfl, kI := fun _ _ h => h, mono := fun _ h => h, os := rfl, tape := rfl, output := rfl, size := Nat.le_refl _, own := (fun b l h => by simp at h), ilt := hI, μlen := rfl, μpre := (fun i b hi _ => by simp [X] at hi), nle := (by simp [X]), heap := (fun id o h => by simp at h), klt := fun b hb => hb, n0le := (by simp [X]) }, fun t => ?_, ?_, rfl, fun t ht => absurd ht (by simp [X])⟩
    · rcases argEnv_rep (tmps := a.tmps) (k := 0) hvr (fun j v hj => by rw [Nat.zero_add]; exact hat j v hj) t with h0 | ⟨d, h0, h1⟩
      · rw [h0]; exact .un
      · rw [h0]; exact .of (bs := []) (.d h1) List.nodup_nil (by simp)
    · simp [a, X, hnt, vs]; omega
  refine wpIn_mono (h lp J hJ hR X a W I [] _ ⟨rfl, rfl, rfl, rfl, rfl, fun _ => False, h0, fun b hb hk => absurd hb hk⟩ hs) fun e a' w' ⟨X', env', H', I', μ', O', k', hx', s', he, hk⟩ => ?_
  subst hk
  obtain ⟨x1, x2, x3, x4, x5, K, hK1, hK2⟩ := hx'
  have fin : a'.defers = [] ∧ ∃ v, (results fn a'.tmps).run P w' = .ok v w' ∧ ((∃ v', Ending.returned v = .returned v') ∧ ∃ I' K', J (min (m + 1) ys.length) w' I' K') := by
    refine ⟨by rw [s'.dfs.1, x4], _, results_none hrs _ _ _, ⟨_, rfl⟩, I', fun b => O' b ≠ none, ?_⟩
    exact hJ hK1 s'.size (fun b hb hnk => s'.prot b (Classical.byContradiction fun hx => hnk (hK2 b hb hx))) s'.os s'.tape s'.output s'.mono s'.ilt
      (fun b hb hnk hi => s'.kI b (Classical.byContradiction fun hx => hnk (hK2 b hb hx)) hi) (fun b hb => by
        cases hO : O' b with
        | none => exact absurd hO hb
        | some l => exact s'.own b l hO) (fun b hb hlt => hK2 b hlt fun hk => hb (s'.kO b hk))
  cases e with
  | normal => exact fin
  | ret => exact fin
  | _ => rcases he with he | he <;> cases he

/-! ### the caller's side -/
theorem Sim.overK (hs : Sim P X env H a w I μ O) (hn0 : X.n0 = 0) (hc : cellRefs env = false) (ls : List Nat) (hl : ∀ b ∈ ls, O b = some .r) (Kx : Nat → Prop) (hx : ∀ b, Kx b → O b = none ∧ b < w.heap.size) :
    ∃ (Y : Snap) (O2 : Nat → Option Loc), Y.w = w ∧ Y.I = I ∧ Y.n0 = 0 ∧ Y.ne = H.length ∧ Y.μ = μ ∧ (∀ b ∈ ls, Y.K b) ∧ (∀ b, I b → Y.K b) ∧ (∀ b, Kx b → Y.K b) ∧ Mem P Y H w I μ O2 ∧
      ∀ {w' : World} {I' : Nat → Prop} {μ' : List Nat} {O' : Nat → Option Loc} {Hn : Heap}, Mem P Y Hn w' I' μ' O' → ∃ On, Sim P X env Hn a w' I' μ' On ∧ (∀ b ∈ ls, On b = some .r) ∧ ∀ b, Kx b → On b = none := by
  let Y : Snap := { X with w := w, I := I, n0 := 0, ne := H.length, μ := μ, K := fun b => X.K b ∨ I b ∨ (∃ t, O b = some (.t t)) ∨ b ∈ ls ∨ Kx b }
  let O2 : Nat → Option Loc := fun b => match O b with
    | some (.o id) => some (.o id)
    | _ => none
  have hO2o : ∀ b id, O b = some (.o id) → O2 b = some (.o id) := fun b id h => by simp only [O2, h]
  have hO2n : ∀ b, (∀ id, O b ≠ some (.o id)) → O2 b = none := fun b h2 => by
    cases hx : O b with
    | none => simp only [O2, hx]
    | some l => cases l with
      | o id => exact absurd hx (h2 id)
      | _ => simp only [O2, hx]
  have hO2 : ∀ b l, O2 b = some l → ∃ l', O b = some l' := fun b l h => by
    cases hx : O b with
    | some l' => exact ⟨l', rfl⟩
    | none => rw [hO2n b (by rw [hx]; simp)] at h; cases h
  have hKO : ∀ b, Y.K b → ∀ id, O b ≠ some (.o id) := fun b hk => by
    rcases hk with hk | hk | ⟨t, hk⟩ | hk
    · exact fun id h => (by rw [hs.kO b hk] at h; cases h)
    · exact fun id h => (hs.own b _ h).2 hk
    · exact fun id h => (by rw [hk] at h; simp at h)
    · rcases hk with hk | hk
      · exact fun id h => (by rw [hl b hk] at h; simp at h)
      · exact fun id h => (by rw [(hx b hk).1] at h; cases h)
  have hmem : Mem P Y H w I μ O2 := {
    prot := fun _ _ => rfl
    kO := fun b hk => hO2n b (hKO b hk)
    kI := fun _ _ h => h
    mono := fun _ h => h
    os := rfl, tape := rfl, output := rfl, size := Nat.le_refl _
    own := fun b l h => by obtain ⟨l', h'⟩ := hO2 b l h; exact hs.own b l' h'
    ilt := hs.ilt, μlen := hs.μlen, μpre := fun _ _ _ h => h, nle := Nat.le_refl _
    heap := fun id o' ho' => by
      obtain ⟨blk, ds, h1, h2, h3, _⟩ := hs.heap id o' ho'
      exact ⟨blk, ds, h1, h2, fun _ => ⟨(h3 (by omega)).1, fun b hb' => hO2o b id ((h3 (by omega)).2 b hb')⟩, fun h => absurd h (by simp [Y])⟩
    klt := fun b hk => by
      rcases hk with hk | hk | ⟨t, hk⟩ | hk
      · exact Nat.lt_of_lt_of_le (hs.klt b hk) hs.size
      · exact hs.ilt b hk
      · exact (hs.own b _ hk).1
      · rcases hk with hk | hk
        · exact (hs.own b _ (hl b hk)).1
        · exact (hx b hk).2
    n0le := Nat.zero_le _ }
  refine ⟨Y, O2, rfl, rfl, rfl, rfl, rfl, fun b hb => .inr (.inr (.inr (.inl hb))), fun b hb => .inr (.inl hb), fun b hb => .inr (.inr (.inr (.inr hb))), hmem, ?_⟩
  intro w' I' μ' O' Hn hm
  let On : Nat → Option Loc := fun b => if b ∈ ls then some .r else match O' b with
    | some (.o id) => some (.o id)
    | _ => match O b with
      | some (.t t) => some (.t t)
      | _ => none
  have hOl : ∀ b, b ∈ ls → On b = some .r := fun b hb => by show (if b ∈ ls then _ else _) = _; rw [if_pos hb]
  have hOe : ∀ b, b ∉ ls → On b = match O' b with
      | some (.o id) => some (.o id)
      | _ => match O b with
        | some (.t t) => some (.t t)
        | _ => none := fun b hb => by show (if b ∈ ls then _ else _) = _; rw [if_neg hb]
  have hOt : ∀ b t, O b = some (.t t) → On b = some (.t t) ∧ w'.heap[b]? = w.heap[b]? := fun b t h => by
    have hk : Y.K b := .inr (.inr (.inl ⟨t, h⟩))
    have h0 := hm.kO b hk
    refine ⟨?_, hm.prot b hk⟩
    rw [hOe b fun hb => by rw [hl b hb] at h; simp at h]
    simp only [h0, h]
  have hOo : ∀ b id, O' b = some (.o id) → On b = some (.o id) := fun b id h => by
    rw [hOe b fun hb => by have := hm.kO b (.inr (.inr (.inr (.inl hb)))); rw [h] at this; cases this]
    simp only [h]
  have hII : ∀ b, I b → w'.heap[b]? = w.heap[b]? := fun b hi => hm.prot b (.inr (.inl hi))
  have hμ : ∀ (i b : Nat), μ[i]? = some b → μ'[i]? = some b := fun i b h => hm.μpre i b (by have := (List.getElem?_eq_some_iff.1 h).1; have := hs.μlen; simp only [Y]; omega) h
  refine ⟨On, ⟨{
    prot := fun b hk => (hm.prot b (.inl hk)).trans (hs.prot b hk)
    kO := fun b hk => by
      have h0 := hm.kO b (.inl hk)
      rw [hOe b fun hb => by have := hl b hb; rw [hs.kO b hk] at this; cases this]
      simp only [h0, hs.kO b hk]
    kI := fun b hk hi => hs.kI b hk (hm.kI b (.inl hk) hi)
    mono := fun b hi => hm.mono b (hs.mono b hi)
    os := hm.os.trans hs.os, tape := hm.tape.trans hs.tape, output := hm.output.trans hs.output, size := Nat.le_trans hs.size hm.size
    own := fun b l hl' => by
      by_cases hbx : b ∈ ls
      · exact ⟨Nat.lt_of_lt_of_le (hs.own b _ (hl b hbx)).1 hm.size, fun hi => (hs.own b _ (hl b hbx)).2 (hm.kI b (.inr (.inr (.inr (.inl hbx)))) hi)⟩
      · rw [hOe b hbx] at hl'
        split at hl'
        · rename_i id h; exact hm.own b _ h
        · split at hl'
          · rename_i t h
            refine ⟨Nat.lt_of_lt_of_le (hs.own b _ h).1 hm.size, fun hi => (hs.own b _ h).2 (hm.kI b (.inr (.inr (.inl ⟨t, h⟩))) hi)⟩
          · cases hl'
    ilt := hm.ilt, μlen := hm.μlen
    μpre := fun i b hi h => hμ i b (hs.μpre i b hi h)
    nle := Nat.le_trans hs.nle hm.nle
    heap := fun id o' ho' => by
      obtain ⟨blk, ds, h1, h2, h3, _⟩ := hm.heap id o' ho'
      exact ⟨blk, ds, h1, h2, fun _ => ⟨(h3 (Nat.zero_le _)).1, fun b hb' => hOo b id ((h3 (Nat.zero_le _)).2 b hb')⟩, fun h => by omega⟩
    klt := hs.klt, n0le := hs.n0le }, fun t => ?_, hs.nt, hs.dfs⟩, hOl, fun b hb => ?_⟩
  rotate_left
  · rw [hOe b fun h => by have := (hx b hb).1; rw [hl b h] at this; cases this]
    simp only [hm.kO b (.inr (.inr (.inr (.inr hb)))), (hx b hb).1]
  have ht := hs.envr t
  obtain ⟨c1, c2⟩ := cellRefs_get hc t
  cases hg : get env t with
  | ref p off len =>
    rw [hg] at ht
    obtain ⟨e, xs, A, n, c, g1, g2, g3⟩ := ht
    cases p with
    | t q => exact ⟨e, xs, A, n, c, g1, g2, g3⟩
    | c id off' => exact absurd hg (c1 _ _ _ _)
  | ep p i j =>
    rw [hg] at ht
    obtain ⟨e, xs, b, n, c, g1, g2, g3⟩ := ht
    cases p with
    | t q => exact ⟨e, xs, b, n, c, g1, g2, g3⟩
    | c id off' => exact absurd hg (c2 _ _ _ _)
  | _ =>
    rw [hg] at ht
    obtain ⟨ds, g1, g2, g3⟩ := ht.plain rfl
    exact .of (g1.keep hm.mono hII hμ fun b hb' => (hOt b t (g3 b hb')).2) g2 fun b hb' => (hOt b t (g3 b hb')).1
theorem Sim.plain0 {Y : Snap} (hs : Sim P X env H a w I μ O) (hm : Mem P Y H w I μ O') : Sim P { Y with nt := (0, X.nt.2), dfs := [], args := [] } (plainE env) H { tmps := a.tmps, defers := [] } w I μ O' := by
  refine ⟨hm.cast rfl rfl rfl rfl rfl rfl, fun t => ?_, hs.nt, rfl, fun t ht => absurd ht (by simp)⟩
  rw [get_plainE]
  split
  · rename_i hpl
    simp only [Bool.and_eq_true, Bool.not_eq_true'] at hpl
    obtain ⟨bs, g1, g2, g3⟩ := (hs.envr t).plain hpl.2
    have := noOwn_bs g1 hpl.1
    subst this
    exact .of (bs := []) g1 List.nodup_nil (by simp)
  · exact .un
theorem isOwn_plainE (env : Env) (t : Nat) : isOwn (get (plainE env) t) = false := by
  rw [get_plainE]
  split
  · rename_i h
    simp only [Bool.and_eq_true] at h
    cases hg : get env t <;> first | rfl | (rw [hg] at h; simp [noOwn] at h)
  · rfl
def roundE : List Nat → List DV → Env → Env
  | p :: ps, d :: ds, e => roundE ps ds ((p, .d d) :: e)
  | _, _, e => e
theorem Sim.roundL : ∀ {ps : List Nat} {ds : List DV} {vs : List Value} {env : Env} {a : Act} {O : Nat → Option Loc}, Sim P X env H a w I μ O → (∀ t, isOwn (get env t) = false) → RepAll w I ds vs → (∀ p ∈ ps, okT X.nt p) → ps.length = ds.length →
    ∃ O', Sim P X (roundE ps ds env) H { a with tmps := (ps.zip vs).foldl (fun (t : Array Value) x => t.setIfInBounds x.1 x.2) a.tmps } w I μ O' := by
  intro ps
  induction ps with
  | nil => intro ds vs env a O hs _ _ _ _; exact ⟨O, by simpa [roundE] using hs⟩
  | cons p ps ih =>
    intro ds vs env a O hs h0 hr hp hl
    cases hr with
    | nil => simp at hl
    | @cons d v ds vs h t =>
      have s1 := hs.put_hand (t := p) (hp p (by simp)) (Hand.d (O := O) (μ := μ) (P := P) h)
      rw [put_cons (h0 p)] at s1
      obtain ⟨O', s2⟩ := ih (ds := ds) (vs := vs) s1 (fun t => by
        simp only [get]; split
        · rfl
        · exact h0 t) t (fun q hq => hp q (by simp [hq])) (by simpa using hl)
      exact ⟨O', by simpa [roundE, Act.put] using s2⟩
def jumpOf : Exit → Option Code
  | .normal => none
  | .ret => some .ret
  | .exit id => some (.exit id)
  | _ => none

theorem AWM.rangeFuncG {g : Nat} {ps : List Nat} {assign body : Code} {f : FuncId} {caps : List DV} {ys : List (List DV)} {m : Nat} {e1 : Exit} (hro : C.ro = none) (hn0 : C.n0 = 0) (hg : get env g = .d (.fn f [] caps)) (hcall : ∀ args w, (callFunc f args).run P w = .ok (.enter f args) w)
    (hit : ItG P f caps ys m) (hys : ∀ ds ∈ ys, ds.length = ps.length) (hps : ∀ p ∈ ps, okT (0, C.nt.2) p) (hc : cellRefs env = false) (Hs : Nat → Heap → Prop) (h0 : Hs 0 H) (he1 : (∃ id, e1 = .exit id) ∨ e1 = .ret)
    (hround : ∀ (l k : Nat) (ds : List DV) (H : Heap), ys[k]? = some ds → k ≤ m → Hs k H → AW P { nt := (0, C.nt.2), n0 := 0, ne := H.length, ro := some l } assign
      (thenQ (AW P { nt := (0, C.nt.2), n0 := 0, ne := H.length, ro := some l } body fun e _ H' => e = (if k < m then .normal else e1) ∧ Hs (k + 1) H') fun _ _ _ => False) (roundE ps ds (plainE env)) H)
    (hdone : ∀ H, Hs (min (m + 1) ys.length) H → Q (if m < ys.length then e1 else .normal) env H) : AWM P C (.rangeFunc (.tmp g) ps.toArray assign body) Q env H := by
  intro X a w I μ O h1 h2 h3 hs
  have hX0 : X.n0 = 0 := by omega
  refine wpIn_rangeFunc ?_
  intro fn _
  rw [hro]
  have hfr := hs.deep (x := .tmp g) (v := .fn f [] caps) (by show deepOf (get env g) = _; rw [hg]; rfl)
  generalize hev : a.eval (.tmp g) = u at hfr
  cases hfr with
  | fn _ _ _ fs cv hfs hcv =>
  cases hfs
  obtain ⟨rec, hrec⟩ : ∃ rec : LoopState → Option Code → Loop, rec = fun st pe => { state := st, pending := pe, fn, tmps := a.tmps, params := ps.toArray, assign, body, defers := w.heap.size } := ⟨_, rfl⟩
  obtain ⟨W1, hW1⟩ : ∃ W1, (w.alloc (.deferred (some []))).alloc (.loop (rec .ready none)) = W1 := ⟨_, rfl⟩
  have hL1 : W1.heap[w.heap.size + 1]? = some (.loop (rec .ready none)) := by
    rw [← hW1]; have := World.alloc_heap_new (w.alloc (.deferred (some []))) (.loop (rec .ready none)); rwa [World.size_alloc] at this
  have hK1 : W1.heap[w.heap.size]? = some (.deferred (some [])) := by
    rw [← hW1]; exact (Below.heap_alloc _ _ _ (by simp)).trans (World.alloc_heap_new w _)
  have hb1 : Below w.heap.size w W1 := by
    rw [← hW1]; exact (alloc_below _).trans ((alloc_below _).mono (by simp))
  have hsz1 : W1.heap.size = w.heap.size + 2 := by rw [← hW1]; simp
  have hs1 := (hs.grow hb1).newR [w.heap.size, w.heap.size + 1] fun b hb => by
    have hge : w.heap.size ≤ b ∧ b < W1.heap.size := by simp at hb; omega
    refine ⟨hge.2, .inl ?_, fun hi => ?_, fun hk => ?_⟩
    · cases hO : O b with
      | none => rfl
      | some l => have := (hs.own b l hO).1; omega
    · have := hs.ilt b hi; omega
    · have := hs.klt b hk; have := hs.size; omega
  refine ⟨w.heap.size + 1, [{ target := .collected w.heap.size, args := #[] }], W1, { target := .fn (.func f) cv.toArray, args := #[.func (.yield (w.heap.size + 1)) #[] #[]] }, W1, f,
    #[.func (.yield (w.heap.size + 1)) #[] #[]] ++ cv.toArray, W1, ?_, ?_, ?_, ?_, fun h => (by simp [om] at h), ?_⟩
  · rw [← hW1, hrec]; exact run_enterLoop_outer _ _ _ _ _
  · simp only [resolve, hev]
    simp [go_sem]
  · intro f' hf'; exact trivial
  · simp [invoke, go_sem, hcall]
  let stOf : Nat → Loop := fun k => if k ≤ m then rec .ready none else rec .done (jumpOf e1)
  let J : JT := fun k W I' K' => ∃ H' μ' O', Hs k H' ∧ Sim P X env H' a W I' μ' O' ∧ O' w.heap.size = some .r ∧ O' (w.heap.size + 1) = some .r ∧ W.heap[w.heap.size + 1]? = some (.loop (stOf k)) ∧
    W.heap[w.heap.size]? = some (.deferred (some [])) ∧ (∀ b, K' b → O' b = none ∧ ¬ X.K b ∧ ¬ I' b ∧ b < W.heap.size)
  have hJ : JOK J := by
    rintro k W I1 K1 W' I' K' ⟨H1, μ1, O1, q1, q2, q3, q4, q5, q6, q7⟩ g1 g2 g3 g4 g5 g6 g7 g8 g9 g10
    refine ⟨H1, μ1, O1, q1, q2.grow2 (Kb := K1) (fun b hb => ⟨(q7 b hb).1, (q7 b hb).2.1, (q7 b hb).2.2.1⟩) g1 g2 g3 g4 g5 g6 g7 g8, q3, q4, ?_, ?_, fun b hb => ?_⟩
    · rw [g2 _ (q2.own _ _ q4).1 fun hk => by have := (q7 _ hk).1; rw [q4] at this; cases this]; exact q5
    · rw [g2 _ (q2.own _ _ q3).1 fun hk => by have := (q7 _ hk).1; rw [q3] at this; cases this]; exact q6
    · by_cases hlt : b < W.heap.size
      · have := q7 b (g10 b hb hlt)
        exact ⟨this.1, this.2.1, (g9 b hb).2, (g9 b hb).1⟩
      · refine ⟨?_, fun hk => ?_, (g9 b hb).2, (g9 b hb).1⟩
        · cases hO : O1 b with
          | none => rfl
          | some l => exact absurd (q2.own b l hO).1 hlt
        · have := q2.klt b hk; have := q2.size; omega
  have hcvW : RepAll W1 I caps cv := hcv.keep (fun b hi => hb1.block b (hs.ilt b hi)) fun _ h => h
  refine (hit (w.heap.size + 1) W1 I cv J hJ hcvW (fun b hi => Nat.lt_of_lt_of_le (hs.ilt b hi) hb1.size) ?_ ⟨H, μ, _, h0, hs1, by simp, by simp, by simp only [stOf]; rw [if_pos (Nat.zero_le _)]; exact hL1, hK1, fun b hb => hb.elim⟩).mono ?_
  · -- a round
    rintro k ds hk hkm W I1 K1 vs ⟨H1, μ1, O1, hH1, s1, oD, ol, hl0, hD, hKb⟩ hr
    have hl : W.heap[w.heap.size + 1]? = some (.loop (rec .ready none)) := by
      have := hl0; simp only [stOf] at this; rwa [if_pos hkm] at this
    have hlen := hys ds (List.mem_of_getElem? hk)
    have hy := run_yield (P := P) (args := vs.toArray) hl (by rw [hrec]; simp [← hr.length, hlen])
    rw [hrec] at hy
    refine ⟨fn, _, assign, body, hy, roundIn_of_wpIn trivial ?_⟩
    obtain ⟨Y, O2, y1, y2, y3, y4, y5, yl, yI, yK, ym, yk⟩ := s1.overK hX0 hc [w.heap.size, w.heap.size + 1] (by simp [oD, ol]) K1 fun b hb => ⟨(hKb b hb).1, (hKb b hb).2.2.2⟩
    obtain ⟨O3, sr⟩ := (s1.plain0 ym).roundL (isOwn_plainE env) hr (ps := ps) (fun p hp => by show okT (0, X.nt.2) p; rw [h1]; exact hps p hp) hlen.symm
    have hnl : ¬ I1 (w.heap.size + 1) := (s1.own _ _ ol).2
    have etm : ((ps.toArray.zip vs.toArray).foldl (fun (tmps : Array Value) (t, a) => tmps.setIfInBounds t a) a.tmps) = (ps.zip vs).foldl (fun (t : Array Value) x => t.setIfInBounds x.1 x.2) a.tmps := by
      rw [← Array.foldl_toList, Array.toList_zip]
    rw [etm]
    refine wpIn_mono (hround (w.heap.size + 1) k ds H1 hk hkm hH1 { Y with nt := (0, X.nt.2), dfs := [], args := [] } _ _ _ _ _ (by show (0, X.nt.2) = (0, C.nt.2); rw [h1]) y3 y4 sr) ?_
    rintro e a1 w1 ⟨env1, H2, I2, μ2, O4, q1, q2⟩
    cases e with
    | normal =>
      have hl1 : w1.heap[w.heap.size + 1]? = some (.loop (rec .ready none)) := (q1.prot _ (yl _ (by simp))).trans (by rw [y1]; exact hl)
      refine ⟨_, run_beginRound hl1 (by rw [hrec]), ?_⟩
      have sb := q1.busy y3 (putObj_grown (.loop { rec .ready none with state := .busy })) (yl (w.heap.size + 1) (by simp)) (by show ¬ Y.I _; rw [y2]; exact hnl)
      refine wpIn_mono (q2 { Y with nt := (0, X.nt.2), dfs := [], args := [], w := w1.putObj (w.heap.size + 1) (.loop { rec .ready none with state := .busy }), I := I2, μ := μ2 } _ _ _ _ _ (by show (0, X.nt.2) = (0, C.nt.2); rw [h1]) y3 y4 sb) ?_
      rintro e a2 w2 ⟨env2, H3, I3, μ3, O5, t1, he, t2⟩
      have hl2 : w2.heap[w.heap.size + 1]? = some (.loop { rec .ready none with state := .busy }) := (t1.prot _ (yl _ (by simp))).trans (World.putObj_heap_same (Array.getElem?_eq_some_iff.1 hl1).1)
      have key : ∀ jump, (jump.isNone = decide (k < m)) → ({ ({ rec .ready none with state := .busy } : Loop) with state := if jump.isNone then LoopState.ready else .done, pending := jump } : Loop) = stOf (k + 1) →
          ∃ v w', (Instr.endRound (w.heap.size + 1) jump).run P w2 = .ok v w' ∧ (Ending.returned v = .returned (.bool (decide (k < m))) ∧ ∃ I', J (k + 1) w' I' K1 ∧ (∀ b, K1 b → w'.heap[b]? = W.heap[b]? ∧ ¬ I' b) ∧ (∀ b, I1 b → I' b ∧ w'.heap[b]? = W.heap[b]?) ∧ W.heap.size ≤ w'.heap.size ∧ ∀ b, I' b → b < w'.heap.size) := by
        intro jump hj hst
        have hend := run_endRound (P := P) jump hl2
        refine ⟨_, _, hend, by rw [hj], I3, ?_⟩
        rw [hst]
        have hput : w2.putObj (w.heap.size + 1) (.loop (stOf (k + 1))) = (w2.putObj (w.heap.size + 1) (.loop (rec .ready none))).putObj (w.heap.size + 1) (.loop (stOf (k + 1))) := by
          simp [World.putObj]
        have hl4 : (w2.putObj (w.heap.size + 1) (.loop (rec .ready none))).heap[w.heap.size + 1]? = some (.loop (rec .ready none)) := World.putObj_heap_same (Array.getElem?_eq_some_iff.1 hl2).1
        have hm4 : Mem P Y H3 (w2.putObj (w.heap.size + 1) (.loop (rec .ready none))) I3 μ3 O5 :=
          Mem.ready (X := Y) (l := w.heap.size + 1) (q1.toMem.cast rfl rfl rfl rfl rfl rfl) y3 (yl _ (by simp)) (by rw [y2]; exact hnl) (putObj_grown _) (t1.toMem.cast rfl rfl rfl rfl rfl rfl) (putObj_grown _) (by rw [hl4, y1, hl])
        obtain ⟨On, k1, k2, k3⟩ := yk hm4
        have s5 := k1.grownR (putObj_grown (l := w.heap.size + 1) (.loop (stOf (k + 1)))) fun b hb => by cases hb; exact k2 _ (by simp)
        have keep : ∀ b, Y.K b → b ≠ w.heap.size + 1 → (w2.putObj (w.heap.size + 1) (.loop (stOf (k + 1)))).heap[b]? = W.heap[b]? := fun b hb hne => by
          rw [hput]
          exact (World.putObj_heap_other hne).trans ((hm4.prot b hb).trans (by rw [y1]))
        have hKne : ∀ b, K1 b → b ≠ w.heap.size + 1 := fun b hb e => by subst e; have := (hKb _ hb).1; rw [ol] at this; cases this
        have hIne : ∀ b, I1 b → b ≠ w.heap.size + 1 := fun b hb e => by subst e; exact hnl hb
        have hKI : ∀ b, K1 b → ¬ I3 b := fun b hb hi => (hKb b hb).2.2.1 (by have := hm4.kI b (yK b hb) hi; rwa [y2] at this)
        refine ⟨⟨H3, μ3, On, t2, by rw [hput]; exact s5, k2 _ (by simp), k2 _ (by simp), World.putObj_heap_same (Array.getElem?_eq_some_iff.1 hl2).1, ?_, fun b hb => ⟨k3 b hb, (hKb b hb).2.1, hKI b hb, ?_⟩⟩,
          fun b hb => ⟨keep b (yK b hb) (hKne b hb), hKI b hb⟩, fun b hb => ⟨hm4.mono b (by rw [y2]; exact hb), keep b (yI b hb) (hIne b hb)⟩, ?_, fun b hb => ?_⟩
        · rw [keep _ (yl _ (by simp)) (by omega)]; exact hD
        · have := hm4.klt b (yK b hb); have h6 := hm4.size; rw [World.putObj_size] at h6 ⊢; omega
        · have h6 := hm4.size; rw [y1, World.putObj_size] at h6; rw [World.putObj_size]; exact h6
        · have := hm4.ilt b hb; rw [World.putObj_size] at this ⊢; exact this
      by_cases hlt : k < m
      · rw [if_pos hlt] at he
        subst he
        exact key none (by simp [hlt]) (by simp only [stOf]; rw [if_pos (show k + 1 ≤ m by omega)]; rw [hrec]; rfl)
      · rw [if_neg hlt] at he
        subst he
        rcases he1 with ⟨id, rfl⟩ | rfl
        · exact key (some (.exit id)) (by simp [hlt]) (by simp only [stOf]; rw [if_neg (show ¬ k + 1 ≤ m by omega)]; rw [hrec]; rfl)
        · exact key (some .ret) (by simp [hlt]) (by simp only [stOf]; rw [if_neg (show ¬ k + 1 ≤ m by omega)]; rw [hrec]; rfl)
    | _ => exact q2.elim
  · -- behind the iterator
    rintro e W2 ⟨⟨v, rfl⟩, I1, K1, H1, μ1, O1, hH1, s1, oD, ol, hl, hD, hKb⟩
    have s2 := s1.grownR (putObj_grown (l := w.heap.size + 1) (.loop { stOf (min (m + 1) ys.length) with state := .exhausted })) fun b hb => by cases hb; exact ol
    have s3 := s2.lab (O' := fun b => if b = w.heap.size then none else O1 b) (fun b l hb => by
        split at hb
        · cases hb
        · exact s2.own b l hb) (fun b hb => by
        split
        · rfl
        · exact s2.kO b hb) (fun b id hb => by rw [if_neg (fun e => by subst e; rw [oD] at hb; simp at hb)]; exact hb) (fun b t hb => by rw [if_neg (fun e => by subst e; rw [oD] at hb; simp at hb)]; exact hb)
    have hmk : Marks X.K (W2.putObj (w.heap.size + 1) (.loop { stOf (min (m + 1) ys.length) with state := .exhausted })) I1 (fun b => if b = w.heap.size then none else O1 b) [{ target := .collected w.heap.size, args := #[] }] := by
      refine ⟨by simp, fun m hm => ?_⟩
      simp at hm
      refine ⟨_, hm, ?_, by simp, (s1.own _ _ oD).2, fun hk => by have := hs.klt _ hk; have := hs.size; omega⟩
      exact (World.putObj_heap_other (by omega)).trans hD
    have s4 : Sim P { X with dfs := [{ target := .collected w.heap.size, args := #[] }] ++ X.dfs } env H1 { a with defers := [{ target := .collected w.heap.size, args := #[] }] ++ a.defers } (W2.putObj (w.heap.size + 1) (.loop { stOf (min (m + 1) ys.length) with state := .exhausted })) I1 μ1 (fun b => if b = w.heap.size then none else O1 b) :=
      ⟨s3.toMem.cast rfl rfl rfl rfl rfl rfl, s3.envr, s3.nt, by rw [s3.dfs.1], s3.dfs.2⟩
    have hq := hdone H1 hH1
    have hbusy : (stOf (min (m + 1) ys.length)).state ≠ .busy := by
      simp only [stOf]; split <;> rw [hrec] <;> simp
    have hend := run_endLoop (P := P) hl hbusy
    generalize W2.putObj (w.heap.size + 1) (.loop { stOf (min (m + 1) ys.length) with state := .exhausted }) = W3 at hend s4 hmk
    refine ⟨(stOf (min (m + 1) ys.length)).pending, W3, hend, ?_⟩
    by_cases hmy : m < ys.length
    · rw [if_pos hmy] at hq
      have hst : (stOf (min (m + 1) ys.length)).pending = jumpOf e1 := by
        simp only [stOf]; rw [if_neg (show ¬ min (m + 1) ys.length ≤ m by omega), hrec]
      rw [hst]
      rcases he1 with ⟨id, rfl⟩ | rfl
      · exact wpIn_exit ⟨env, _, I1, μ1, _, _, s4, hq, hmk⟩
      · exact wpIn_ret ⟨env, _, I1, μ1, _, _, s4, hq, hmk⟩
    · rw [if_neg hmy] at hq
      have hst : (stOf (min (m + 1) ys.length)).pending = none := by
        simp only [stOf]; rw [if_pos (show min (m + 1) ys.length ≤ m by omega), hrec]
      rw [hst]
      exact ⟨env, _, I1, μ1, _, _, s4, hq, hmk⟩
end
end Go.FL
/-
  A FUNCTIONAL LOGIC, 43: function values: known by what they do, or with pointers to boxes that they write; results of bodies that range over functions.
-/
namespace Go.FL
open Go Go.RowKit

def FnV (P : Program) (gv : DV) (xs : List DV) (r : AV) : Prop :=
  ∃ f first caps, gv = .fn f first caps ∧ (∀ args w, (callFunc f args).run P w = .ok (.enter f args) w) ∧ Fn P f (first ++ xs ++ caps) r
structure FV (P : Program) {α β : Type} (enc : α → List DV) (dec : β → AV) where
  dv : DV
  g : α → Option β
  ok : ∀ x r, g x = some r → FnV P dv (enc x) (dec r)
def FnR (P : Program) (f : FuncId) (args : List AV) (H : Heap) (post : AV → Heap → Prop) : Prop :=
  ∀ (X : Snap) (w : World) (I : Nat → Prop) (μ : List Nat) (O : Nat → Option Loc) (vs : List Value), X.w = w → X.I = I → X.n0 = 0 → X.ne = H.length → X.μ = μ → Mem P X H w I μ O → ARepAll P w I μ args vs [] →
    CallsIn (om none) 0 P f vs.toArray w fun e w' => ∃ v I' μ' O' H' r rs, e = .returned v ∧ Mem P X H' w' I' μ' O' ∧ ARep P w' I' μ' r v rs ∧ rs.Nodup ∧ (∀ b ∈ rs, ∃ n, O' b = some (.t n)) ∧ post r H'

section
variable {P : Program} {C : Cx} {X : Snap} {o : Oper} {ops : Array Oper} {Q : Exit → Env → Heap → Prop} {env env' : Env} {H H' : Heap} {a : Act} {w w' : World} {I I' : Nat → Prop} {μ μ' : List Nat} {O O' : Nat → Option Loc}
  {K : Env → Heap → Prop} {k : Nat} {l : List Oper}

theorem FnR.mono {f : FuncId} {args : List AV} {post post' : AV → Heap → Prop} (h : FnR P f args H post) (hp : ∀ r H', post r H' → post' r H') : FnR P f args H post' := fun X w I μ O vs e1 e2 e3 e4 e5 hm ha =>
  (h X w I μ O vs e1 e2 e3 e4 e5 hm ha).mono fun _ _ ⟨v, I', μ', O', H', r, rs, q1, q2, q3, q4, q5, q6⟩ => ⟨v, I', μ', O', H', r, rs, q1, q2, q3, q4, q5, hp _ _ q6⟩

theorem vclv {c : Call} {fo : Operand} {gv : DV} {xs : List DV} {r : AV} (h : FnV P gv xs r) (ho : o.op = .call c := by rfl) (hc : c.callee = .value fo := by rfl) (hfo : lk env fo = .d gv := by rfl) (ha : argsD env c.args.toList = some xs := by rfl) (hr : isRef r = false := by rfl) : VOK P C o env H r := by
  obtain ⟨f, first, caps, rfl, hcall, hfn⟩ := h
  exact vcl hfn hcall ho hc hfo ha hr
theorem FnV.of {f : FuncId} {caps xs : List DV} {r : AV} (hcall : ∀ args w, (callFunc f args).run P w = .ok (.enter f args) w) (h : Fn P f (xs ++ caps) r) : FnV P (.fn f [] caps) xs r := ⟨f, [], caps, rfl, hcall, by simpa using h⟩
theorem vmkf {f : FuncId} {cap : Array Operand} {ds : List DV} (ho : o.op = .makeFunc (.func f) #[] cap := by rfl) (ha : argsD env cap.toList = some ds := by rfl) : VOK P C o env H (.d (.fn f [] ds)) :=
  .pv ⟨by simp [ho], fun X a w I μ O _ hs => ⟨.func (.func f) #[] (cap.map a.eval), by simp [execOp, ho, Instr.makeFunc], .d (by
    have := Rep.fn f [] ds [] (cap.toList.map a.eval) (.nil (w := w) (I := I)) (hs.argsD ha)
    have e : (cap.toList.map a.eval).toArray = cap.map a.eval := by apply Array.ext'; simp
    rw [e] at this
    exact this)⟩⟩
theorem mkfA {f : FuncId} {cap : Array Operand} {t : Nat} {avs : List AV} (h : RL P C ops Q (k + 1) l ((t, .fn f [] avs) :: env) H) (hg : grd ops env o true = true := by rfl) (ho : o.op = .makeFunc (.func f) #[] cap := by rfl) (ha : argsA env cap.toList = some avs := by rfl)
    (hd : o.dst = some t := by rfl) (hf : isOwn (get env t) = false := by rfl) (ht : okT C.nt t := by rfl) : RL P C ops Q k (o :: l) env H := by
  rw [← put_cons hf] at h
  refine .go hg (.pure (by simp [ho]) hd ht (fun X a w I μ O _ hs => ⟨.func (.func f) #[] (cap.map a.eval), ?_, [], ?_, List.nodup_nil, by simp⟩) h)
  · simp [execOp, ho, Instr.makeFunc]
  · have := ARep.fn (f := f) (.nil (P := P) (w := w) (I := I) (μ := μ)) (hs.argsA ha)
    have e : (cap.toList.map a.eval).toArray = cap.map a.eval := by apply Array.ext'; simp
    rw [e] at this
    exact this
theorem bxA {x : Operand} {ty t : Nat} {c : AV} (h : RL P C ops Q (k + 1) l ((t, .bp H.length 0) :: env) (H ++ [.box [c]])) (hg : grd ops env o true = true := by rfl) (ho : o.op = .box ty x := by rfl) (hv : lk env x = c := by rfl) (hu : c ≠ .un := by simp)
    (h1 : one c = true := by rfl) (hn : noOwn c = true := by rfl) (hd : o.dst = some t := by rfl) (hf : isOwn (get env t) = false := by rfl) (ht : okT C.nt t := by rfl) : RL P C ops Q k (o :: l) env H := by
  obtain ⟨g1, g2⟩ := lk_copy hv hu
  refine .go hg (ok_box ho g1 hd ht (by rw [g2]; exact h1) (.inl (by rw [g2]; exact hn)) ?_)
  have e1 : useE env (aoOf x) = env := by
    cases hx : aoOf x with
    | t s => rw [hx] at g2; simp only [useE]; rw [show get env s = c from g2, hn]; rfl
    | _ => rfl
  rw [e1, g2, put_cons hf]; exact h

theorem ARepAll.append : ∀ {xs : List AV} {vs : List Value} {b1 : List Nat} {ys : List AV} {us : List Value} {b2 : List Nat}, ARepAll P w I μ xs vs b1 → ARepAll P w I μ ys us b2 → ARepAll P w I μ (xs ++ ys) (vs ++ us) (b1 ++ b2)
  | _, _, _, _, _, _, .nil, k => k
  | _, _, _, _, _, _, .cons h t, k => by
    have := ARepAll.cons h (t.append k)
    rwa [← List.append_assoc] at this

theorem OpOK.callR {c : Call} {fo : Operand} {f : FuncId} {caps avs : List AV} {post : AV → Heap → Prop} (ho : o.op = .call c) (hc : c.callee = .value fo) (hfo : (fo = .func f ∧ caps = []) ∨ (lk env fo = .fn f [] caps ∧ noOwnL caps = true)) (ha : argsA env c.args.toList = some avs) (hcr : cellRefs env = false) (hn0 : C.n0 = 0)
    (hcall : ∀ args w, (callFunc f args).run P w = .ok (.enter f args) w) (hfn : FnR P f (avs ++ caps) H post) (hd : ∀ t, o.dst = some t → okT C.nt t)
    (hK : ∀ r H', post r H' → K (match o.dst with | some t => put env t r | none => env) H') : OpOK P C o env H K := by
  intro X a w I μ O next Q h1 h2 h3 hs hn
  refine ⟨fun _ _ => trivial, ?_⟩
  have hcv : ∃ cs, a.eval fo = .func (.func f) #[] cs ∧ ARepAll P w I μ caps cs.toList [] := by
    rcases hfo with ⟨rfl, rfl⟩ | ⟨hl, hnc⟩
    · exact ⟨#[], rfl, .nil⟩
    · obtain ⟨bs, hr⟩ := hs.lk (x := fo) (by rw [hl]; rfl)
      rw [hl] at hr
      have hno := noOwn_bs hr (by simp [noOwn, noOwnL, hnc])
      subst hno
      generalize a.eval fo = u at hr
      generalize hbs : ([] : List Nat) = bs at hr
      cases hr with
      | fn k1 k2 =>
        cases k1
        have : _ ++ _ = ([] : List Nat) := hbs.symm
        rw [List.append_eq_nil_iff] at this
        have k3 := this.2
        subst k3
        exact ⟨_, rfl, by simpa using k2⟩
  obtain ⟨cs, hev, hcs⟩ := hcv
  have hres := run_resolve_value (P := P) (w := w) (ρ := a.eval) (ty := o.type) hc hev
  have hex : (execOp a.eval o).run P w = .ok (.enter f (#[] ++ c.args.map a.eval ++ cs)) w := by
    simp only [execOp, ho, Sem.run_bind, hres, Result.andThen_ok, invoke, hcall]
  rw [Oper.semAt_eq _ _ _ (by simp [ho]), hex, Oper.uponIn_enter]
  refine ⟨fun h => (by simp [om] at h), ?_⟩
  obtain ⟨Y, O2, y1, y2, y3, y4, y5, ym, _, yk⟩ := hs.over (by omega) hcr [] (by simp)
  have hargs : ARepAll P w I μ (avs ++ caps) (c.args.toList.map a.eval ++ cs.toList) [] := (hs.argsA ha).append hcs
  have hcl := hfn Y w I μ O2 _ y1 y2 y3 y4 y5 ym hargs
  have e : (c.args.toList.map a.eval ++ cs.toList).toArray = #[] ++ c.args.map a.eval ++ cs := by apply Array.ext'; simp
  rw [e] at hcl
  refine ⟨trivial, fun csF hroom => ?_⟩
  obtain ⟨e, w', fr, ⟨v, I', μ', O', Hn, r, rs, rfl, q1, q2, q3, q4, q5⟩, s, x⟩ := hcl.2 csF (room_wide _)
  refine ⟨.returned v, w', fr, ?_, s, x⟩
  obtain ⟨On, k1, k2⟩ := yk q1 (rs := rs) q4
  have hh : Hand P w' I' μ' On r v := ⟨rs, q2, q3, k2⟩
  show next (a.put o.dst v) w'
  have hK := hK r Hn q5
  cases hdst : o.dst with
  | none => exact hn _ _ _ _ _ _ _ k1 (by rw [hdst] at hK; exact hK)
  | some t => exact hn _ _ _ _ _ _ _ (k1.put_hand (by rw [h1]; exact hd t hdst) hh) (by rw [hdst] at hK; exact hK)
theorem clR {c : Call} {f t : Nat} {avs : List AV} {post : AV → Heap → Prop} (hfn : FnR P f avs H post) (hcall : ∀ args w, (callFunc f args).run P w = .ok (.enter f args) w) (h : ∀ r H', post r H' → RL P C ops Q (k + 1) l ((t, r) :: env) H')
    (hg : grd ops env o true = true := by rfl) (ho : o.op = .call c := by rfl) (hc : c.callee = .value (.func f) := by rfl) (ha : argsA env c.args.toList = some avs := by rfl) (hcr : cellRefs env = false := by rfl) (hd : o.dst = some t := by rfl)
    (hf : isOwn (get env t) = false := by rfl) (ht : okT C.nt t := by rfl) (h0 : C.n0 = 0 := by rfl) : RL P C ops Q k (o :: l) env H := by
  refine .go hg (OpOK.callR (caps := []) ho hc (.inl ⟨rfl, rfl⟩) ha hcr h0 hcall (by rwa [List.append_nil]) (fun t' h' => by rw [hd] at h'; cases h'; exact ht) fun r H' hp => ?_)
  rw [hd]
  show RL P C ops Q (k + 1) l (put env t r) H'
  rw [put_cons hf]; exact h r H' hp
theorem clRv {c : Call} {fo : Operand} {f t : Nat} {avs caps : List AV} {post : AV → Heap → Prop} (hfn : FnR P f (avs ++ caps) H post) (hcall : ∀ args w, (callFunc f args).run P w = .ok (.enter f args) w) (h : ∀ r H', post r H' → RL P C ops Q (k + 1) l ((t, r) :: env) H')
    (hg : grd ops env o true = true := by rfl) (ho : o.op = .call c := by rfl) (hc : c.callee = .value fo := by rfl) (hfo : lk env fo = .fn f [] caps := by rfl) (hnc : noOwnL caps = true := by rfl) (ha : argsA env c.args.toList = some avs := by rfl) (hcr : cellRefs env = false := by rfl) (hd : o.dst = some t := by rfl)
    (hf : isOwn (get env t) = false := by rfl) (ht : okT C.nt t := by rfl) (h0 : C.n0 = 0 := by rfl) : RL P C ops Q k (o :: l) env H := by
  refine .go hg (OpOK.callR ho hc (.inr ⟨hfo, hnc⟩) ha hcr h0 hcall hfn (fun t' h' => by rw [hd] at h'; cases h'; exact ht) fun r H' hp => ?_)
  rw [hd]
  show RL P C ops Q (k + 1) l (put env t r) H'
  rw [put_cons hf]; exact h r H' hp

def retR (rs : List ResultVar) (post : AV → Heap → Prop) : Exit → Env → Heap → Prop
  | .normal, env, H => ∃ r, resOK env r rs ∧ post r H
  | .ret, env, H => ∃ r, resOK env r rs ∧ post r H
  | _, _, _ => False
theorem FnR.of {f : FuncId} {fn : Func} {c : Code} {args : List AV} {post : AV → Heap → Prop} {rs : List ResultVar} (nt : Nat) (hf : P.funcs[f]? = some fn) (hb : fn.body = some c) (hrs : fn.results = rs.toArray) (hnt : fn.ntmps = nt) (hn : args.length ≤ nt)
    (h : AW P { nt := (0, nt), n0 := 0, ne := H.length } c (retR rs post) (argsE 0 args []) H) : FnR P f args H post := by
  intro X w I μ O vs e1 e2 e3 e4 e5 hm ha
  refine callsIn_of_wp hf hb trivial ?_
  have hlen := ha.length
  let a : Act := { tmps := vs.toArray ++ Array.replicate (fn.ntmps - vs.toArray.size) undef, defers := [] }
  let Y : Snap := { X with nt := (0, nt), dfs := [], args := vs }
  have hat : ∀ (j : Nat) (v : Value), vs[j]? = some v → a.tmps.getD j undef = v := fun j v hj => by
    have hjl : j < vs.length := (List.getElem?_eq_some_iff.1 hj).1
    have e2 : (vs.toArray ++ Array.replicate (fn.ntmps - vs.length) undef)[j]? = some v := by
      rw [Array.getElem?_append_left (by simpa using hjl)]; simpa using hj
    simp [a, e2]
  have hs0 : Sim P Y [] H a w I μ O := by
    refine ⟨hm.cast rfl rfl rfl rfl rfl rfl, fun t => .un, by simp [a, Y, hnt]; omega, rfl, fun t ht => absurd ht (by simp [Y])⟩
  obtain ⟨O1, hs⟩ := hs0.adoptAll (k := 0) ha List.nodup_nil (by simp) (fun _ _ => rfl) fun j v hj => by rw [Nat.zero_add]; exact hat j v hj
  refine wpIn_mono (h Y a w I μ O1 rfl e3 e4 hs) fun e a' w' hp => ?_
  obtain ⟨env', He, I', μ', O', s, q⟩ := hp
  have fin : (∃ r, resOK env' r rs ∧ post r He) → a'.defers = [] ∧ ∃ v, (results fn a'.tmps).run P w' = .ok v w' ∧ ∃ v' I' μ' O' H' r rs, Ending.returned v = .returned v' ∧ Mem P X H' w' I' μ' O' ∧ ARep P w' I' μ' r v' rs ∧ rs.Nodup ∧ (∀ b ∈ rs, ∃ n, O' b = some (.t n)) ∧ post r H' := by
    rintro ⟨r, hres, hpost⟩
    obtain ⟨v, b1, h1, h2, h3, h4⟩ := s.gives hrs hres
    exact ⟨s.dfs.1, v, h1, v, I', μ', O', He, r, b1, rfl, s.toMem.cast rfl rfl rfl rfl rfl rfl, h2, h3, fun b hb => let ⟨t, g, _⟩ := h4 b hb; ⟨t, g⟩, hpost⟩
  cases e with
  | normal => exact fin q
  | ret => exact fin q
  | _ => exact q.elim
def retM (P : Program) (rs : List ResultVar) (r : AV) : Exit → Env → Heap → Prop := fun e env _ => (e = .normal ∨ e = .ret) ∧ (resC P env r rs ∨ resA P env r rs ∨ resOK env r rs)
theorem Fn.ofMA {f : FuncId} {fn : Func} {c : Code} {args : List DV} {r : AV} {rs : List ResultVar} {nt : Nat} (hf : P.funcs[f]? = some fn) (hb : fn.body = some c) (hrs : fn.results = rs.toArray) (hnt : fn.ntmps = nt) (hn : args.length ≤ nt) (hbp : noBp r = true)
    (h : AWM P { nt := (0, nt), n0 := 0, ne := 0 } c (retM P rs r) (argEnv 0 args) []) : Fn P f args r := by
  intro w I vs hI ha
  refine callsIn_of_wp_marks hf hb trivial ?_
  have hlen := ha.length
  let X : Snap := { w := w, I := I, K := fun b => b < w.heap.size, n0 := 0, ne := 0, μ := [], nt := (0, nt), dfs := [] }
  let a : Act := { tmps := vs.toArray ++ Array.replicate (fn.ntmps - vs.toArray.size) undef, defers := [] }
  have hs : Sim P X (argEnv 0 args) [] a w I [] (fun _ => none) := by
    refine ⟨{ prot := fun _ _ => rfl, kO := fun _ _ => rfl, kI := fun _ _ h => h, mono := fun _ h => h, os := rfl, tape := rfl, output := rfl, size := Nat.le_refl _, own := (fun b l h => by simp at h), ilt := hI, μlen := rfl, μpre := (fun i b hi _ => by simp [X] at hi), nle := (by simp [X]), heap := (fun id o h => by simp at h), klt := fun b hb => hb, n0le := (by simp [X]) }, fun t => ?_, ?_, rfl, fun t h => absurd h (by simp [X])⟩
    · rcases argEnv_rep (tmps := a.tmps) (k := 0) ha (fun j v hj => by
        have hjl : j < vs.length := (List.getElem?_eq_some_iff.1 hj).1
        have e2 : (vs.toArray ++ Array.replicate (fn.ntmps - vs.length) undef)[j]? = some v := by
          rw [Array.getElem?_append_left (by simpa using hjl)]; simpa using hj
        simp [a, e2]) t with h0 | ⟨d, h0, h1⟩
      · rw [h0]; exact .un
      · rw [h0]; exact .of (bs := []) (.d h1) List.nodup_nil (by simp)
    · simp [a, X, hnt]; omega
  have hw := h X a w I [] (fun _ => none) rfl rfl rfl hs
  refine wpIn_mono hw fun e a' w' hp => ?_
  obtain ⟨env', H', I', μ', O', ms, s, ⟨he, q⟩, hm⟩ := hp
  have hdf : a'.defers = ms := by rw [s.dfs.1]; simp [X]
  have fin : LeavesInM (om none) 0 P fn a'.tmps (fun e w' => ∃ v I' bs, e = .returned v ∧ Below w.heap.size w w' ∧ (∀ b, I b → I' b) ∧
      (∀ b, I' b → b < w'.heap.size ∧ (b < w.heap.size → I b)) ∧ ARep P w' I' [] r v bs ∧ bs.Nodup ∧ ∀ b ∈ bs, w.heap.size ≤ b ∧ b < w'.heap.size ∧ ¬ I' b) a'.defers .returning w' := by
    rw [hdf]
    refine leaves_marks (fun w4 s4 => ?_) ms w' s hm
    obtain ⟨v, bs, h1, h2, h3, h4⟩ : ∃ v bs, (Go.results fn a'.tmps).run P w4 = .ok v w4 ∧ ARep P w4 I' μ' r v bs ∧ bs.Nodup ∧ ∀ b ∈ bs, ∃ l, O' b = some l := by
      rcases q with q | q | q
      · exact s4.resultsC hrs q
      · exact s4.resultsA hrs q
      · exact s4.results hrs q
    refine ⟨v, h1, v, I', bs, rfl, ⟨s4.os, s4.tape, s4.output, s4.size, fun b hb => s4.prot b hb⟩, s4.mono, fun b hi => ⟨s4.ilt b hi, fun hb => s4.kI b hb hi⟩, h2.noBp hbp, h3, fun b hm => ?_⟩
    obtain ⟨l, hl⟩ := h4 b hm
    refine ⟨?_, (s4.own b l hl).1, (s4.own b l hl).2⟩
    rcases Nat.lt_or_ge b w.heap.size with hlt | hge
    · have := s4.kO b hlt; rw [this] at hl; cases hl
    · exact hge
  rcases he with rfl | rfl <;> exact fin
end
end Go.FL
/-
  A FUNCTIONAL LOGIC, 44: a box's cell, seen otherwise; slices out of struct values; function values in the printed form.
-/
namespace Go.FL
open Go Go.RowKit

section
variable {P : Program} {C : Cx} {X : Snap} {o : Oper} {ops : Array Oper} {Q : Exit → Env → Heap → Prop} {env env' : Env} {H H' : Heap} {a : Act} {w w' : World} {I I' : Nat → Prop} {μ μ' : List Nat} {O O' : Nat → Option Loc}
  {K : Env → Heap → Prop} {k : Nat} {l : List Oper}

theorem ARepAll.reC {c c' : AV} (hcc : ∀ v bs, ARep P w I μ c v bs → ARep P w I μ c' v bs) : ∀ {cs : List AV} {vs : List Value} {bs : List Nat} (off : Nat), ARepAll P w I μ cs vs bs → cs[off]? = some c → ARepAll P w I μ (cs.set off c') vs bs
  | [], _, _, _, h, hc => by simp at hc
  | x :: xs, _, _, 0, .cons h t, hc => by
    simp at hc; subst hc
    exact .cons (hcc _ _ h) t
  | x :: xs, _, _, off + 1, .cons h t, hc => .cons h (t.reC hcc off (by simpa using hc))
theorem Gh.cell {id off : Nat} {cs : List AV} {c c' : AV} (hH : H[id]? = some (.box cs)) (hc : cs[off]? = some c) (hno : isOwn c = false) (hcc : ∀ w I μ v bs, ARep P w I μ c v bs → ARep P w I μ c' v bs) :
    Gh P C env H env (H.set id (.box (cs.set off c'))) := fun X a w I μ O _ _ _ hs => by
  have hlt : id < H.length := (List.getElem?_eq_some_iff.1 hH).1
  refine ⟨I, O, ⟨{ hs.toMem with
    μlen := by rw [hs.μlen]; simp
    nle := by simpa using hs.nle
    heap := fun i ob ho => ?_ }, fun t => ?_, hs.nt, hs.dfs⟩⟩
  · by_cases hi : i = id
    · subst hi
      rw [List.getElem?_set_self hlt] at ho
      cases ho
      obtain ⟨blk, bs, h1, h2, h3, h4⟩ := hs.heap i _ hH
      obtain ⟨cells, e, k1, k2⟩ := h2
      exact ⟨blk, bs, h1, ⟨cells, e, k1, k2.reC (hcc w I μ) off hc⟩, h3, h4⟩
    · rw [List.getElem?_set_ne (Ne.symm hi)] at ho
      exact hs.heap i ob ho
  · refine (hs.envr t).keepG (fun _ h => h) (fun _ _ => rfl) (fun _ _ h => h) (fun b hb => ⟨rfl, hb⟩) fun p e xs hp => ⟨?_, fun v hv => hv⟩
    cases p with
    | t r => exact hp
    | c i o =>
      simp only [plAV] at hp ⊢
      by_cases hi : i = id
      · subst hi
        rw [List.getElem?_set_self hlt]
        rw [hH] at hp
        simp only at hp ⊢
        by_cases ho : o = off
        · subst ho
          rw [List.getD_eq_getElem?_getD, hc] at hp
          simp at hp
          rw [hp] at hno; cases hno
        · rw [List.getD_eq_getElem?_getD, List.getElem?_set_ne (Ne.symm ho), ← List.getD_eq_getElem?_getD]; exact hp
      · rw [List.getElem?_set_ne (Ne.symm hi)]; exact hp
theorem Gh.nlOwnC {id off : Nat} {cs : List AV} (e : TypeId) (hsz : 0 < szOf P e) (hH : H[id]? = some (.box cs) := by rfl) (hc : cs[off]? = some .nl := by rfl) : Gh P C env H env (H.set id (.box (cs.set off (.own e [])))) :=
  Gh.cell hH hc rfl fun w I μ v bs h => by
    cases h
    exact .own e [] (.slice none 0 0) [] hsz (.inl ⟨none, rfl, rfl, rfl⟩) (.nil _)
theorem vbslE {ty e sz by_ len : Nat} {z : Value} {parts : Array (Nat × Operand)} {xs : List Operand} {ds ds' : List DV} (he : ds' = ds) (hsz : ∀ d ∈ ds', d.flat = true ∧ d.cells.length = sz) (hT : elemT P ty = some (e, sz, by_, z))
    (ho : o.op = .buildSlice ty len parts := by rfl) (hp : partXs 0 parts.toList = some xs := by rfl) (hlen : xs.length = len := by rfl) (ha : argsD env xs = some ds := by rfl) (hsmall : len * sz ≤ 16777216 := by decide) : VOK P C o env H (.own e ds') := by
  subst he; exact vbsl hsz hT ho hp hlen ha hsmall
theorem vbxd {x : Operand} {ty : Nat} {v : DV} (ho : o.op = .box ty x := by rfl) (hv : deepOf (lk env x) = some v := by rfl) (hl : v.leaf = true := by rfl) : VOK P C o env H (.d (.ptr [v])) :=
  .val (by simp [ho]) fun X a w I μ O _ _ _ hs => by
    have hr := hs.deep (x := x) hv
    have hone := hr.one hl
    have hcells : (a.eval x).cells = #[a.eval x] := by
      generalize a.eval x = u at hone
      cases u <;> first | rfl | simp [Value.oneCell'] at hone
    have hb : Below w.heap.size w (w.alloc (.cells #[a.eval x] ty)) := alloc_below _
    refine ⟨.pointer (some ⟨w.heap.size, 0, none⟩), _, fun b => I b ∨ b = w.heap.size, [], ?_, hb, fun b hi => .inl hi, fun b hi => ?_, .d (.ptr [v] w.heap.size 0 [a.eval x] (.inr rfl) ?_ (.cons (hr.keep (fun b hi => hb.block b (hs.ilt b hi)) fun b hi => .inl hi) .nil)), List.nodup_nil, by simp⟩
    · simp only [execOp, ho, Instr.box, Sem.run_bind, run_newVar, Result.andThen_ok, Sem.run_pure, hcells]
    · rcases hi with hi | rfl
      · exact ⟨Nat.lt_of_lt_of_le (hs.ilt b hi) hb.size, fun _ => hi⟩
      · exact ⟨by simp, fun hlt => absurd hlt (Nat.lt_irrefl _)⟩
    · intro j u hj
      have hnew : (w.alloc (.cells #[a.eval x] ty)).heap[w.heap.size]? = some (.cells #[a.eval x] ty) := World.alloc_heap_new w _
      have hj0 : j < 1 := by simpa using (List.getElem?_eq_some_iff.1 hj).1
      have : j = 0 := by omega
      subst this
      simp at hj; subst hj
      show World.cell? _ ⟨w.heap.size, 0 + 0, none⟩ = _
      unfold World.cell?
      show (match (w.alloc (.cells #[a.eval x] ty)).heap[w.heap.size]? with | some (.cells c _ _) => _ | _ => _) = _
      rw [hnew]; rfl
theorem vmvA {x : Operand} {av : AV} (ho : o.op = .move x := by rfl) (hv : lk env x = av := by rfl) (hu : av ≠ .un := by simp) (hr : isRef av = false := by rfl) (hn : noOwn av = true := by rfl) : VOK P C o env H av := by
  obtain ⟨h1, h2⟩ := lk_copy hv hu
  have := pv_mv_copy (P := P) (C := C) (env := env) (H := H) (.inl ho) h1 (by rw [h2]; exact hr) (by rw [h2]; exact hn)
  rw [h2] at this; exact .pv this hr
theorem vldbA {x : Operand} {ty id off : Nat} {cs : List AV} {c : AV} (hH : H[id]? = some (.box cs)) (hc : cs[off]? = some c) (hag : aggT P ty = some false) (ho : o.op = .load ty x := by rfl) (hv : lk env x = .bp id off := by rfl) (hn : noOwn c = true := by rfl) (hr : isRef c = false := by rfl) : VOK P C o env H c := by
  obtain ⟨h1, h2⟩ := lk_copy hv (by simp)
  exact .pv (pv_ld_box ho h1 hag h2 hH hc hn) hr
theorem vncb {x : Operand} {id off : Nat} (ho : o.op = .nilCheck x := by rfl) (hv : lk env x = .bp id off := by rfl) : VOK P C o env H (.bp id off) := by
  obtain ⟨h1, h2⟩ := lk_copy hv (by simp)
  have := pv_nc (P := P) (C := C) (env := env) (H := H) ho h1 (.inl ⟨id, off, h2⟩)
  rw [h2] at this; exact .pv this
theorem vldbo {x : Operand} {ty id off : Nat} {cs : List AV} {e : TypeId} {xs : List DV} (hH : H[id]? = some (.box cs)) (hc : cs[off]? = some (.own e xs)) (hag : aggT P ty = some false) (ho : o.op = .load ty x := by rfl) (hv : lk env x = .bp id off := by rfl) : VOK P C o env H (.ref (.c id off) 0 xs.length) := by
  obtain ⟨h1, h2⟩ := lk_copy hv (by simp)
  refine .rel (by simp [ho]) fun X a w I μ O _ hs => ?_
  obtain ⟨blk, hm, he⟩ := hs.bp h1 h2
  obtain ⟨v, bk, g1, g2⟩ := hs.cell hH hc hm
  refine ⟨v, by simp [execOp, ho, Instr.loadAt, he, Instr.sureAddr, run_loadVar_one hag g1], rfl, RefRel.self hs (p := .c id off) ?_ ?_ (e := e)⟩
  · rw [plAV_cell hH, List.getD_eq_getElem?_getD, hc]; rfl
  · simp [plVal, hm, g1]
end

structure FDV where
  fn ::
  f : FuncId
  first : List DV
  caps : List DV
def FDV.dv (x : FDV) : DV := .fn x.f x.first x.caps
structure FW (α β : Type) where
  fd : FDV
  g : α → Option β
def FW.dv {α β : Type} (f : FW α β) : DV := f.fd.dv
def FW.OK {α β : Type} (P : Program) (enc : α → List DV) (dec : β → AV) (f : FW α β) : Prop := ∀ x r, f.g x = some r → FnV P f.dv (enc x) (dec r)
theorem FWOK {P : Program} {α β : Type} {enc : α → List DV} {dec : β → AV} {f : FuncId} {caps : List DV} {g : α → Option β} (hcall : ∀ args w, (callFunc f args).run P w = .ok (.enter f args) w) (h : ∀ x r, g x = some r → Fn P f (enc x ++ caps) (dec r)) :
    FW.OK P enc dec ⟨.fn f [] caps, g⟩ := fun x r hx => FnV.of hcall (h x r hx)
end Go.FL
/-
  GP: the types of arrays, and facts of them.
-/
namespace Go.FL
open Go Go.Proofs

mutual
inductive Itm where
  | mk (kind : Int) (num : RT) (char : Int) (box : List Arr)
inductive Arr where
  | mk (shape : List Int) (items : List Itm)
end
instance : Inhabited Itm := ⟨.mk 0 (false, [], []) 0 []⟩
instance : Inhabited Arr := ⟨.mk [] []⟩
def Itm.kind : Itm → Int | .mk k _ _ _ => k
def Itm.num : Itm → RT | .mk _ n _ _ => n
def Itm.char : Itm → Int | .mk _ _ c _ => c
def Itm.box : Itm → List Arr | .mk _ _ _ b => b
def Arr.shape : Arr → List Int | .mk s _ => s
def Arr.items : Arr → List Itm | .mk _ i => i
mutual
def Itm.size : Itm → Nat
  | .mk _ _ _ b => arsSize b + 1
def Arr.size : Arr → Nat
  | .mk _ i => itsSize i + 1
def itsSize : List Itm → Nat
  | [] => 0
  | x :: xs => x.size + itsSize xs
def arsSize : List Arr → Nat
  | [] => 0
  | x :: xs => x.size + arsSize xs
end
def Is (xs : List Int) : List DV := xs.map (.i .i64)
mutual
def Itm.dv : Itm → DV
  | .mk k n c b => .ag [.i .u8 k, .b n.1, .sl (L n.2.1), .sl (L n.2.2), .i .i32 c, .sl (Ars b)]
def Arr.dv : Arr → DV
  | .mk s i => .ag [.sl (Is s), .sl (Its i)]
def Its : List Itm → List DV
  | [] => []
  | x :: xs => x.dv :: Its xs
def Ars : List Arr → List DV
  | [] => []
  | x :: xs => x.dv :: Ars xs
end
theorem Itm.dv_eq (x : Itm) : x.dv = .ag [.i .u8 x.kind, .b x.num.1, .sl (L x.num.2.1), .sl (L x.num.2.2), .i .i32 x.char, .sl (Ars x.box)] := by cases x; simp only [Itm.dv]; rfl
theorem Arr.dv_eq (x : Arr) : x.dv = .ag [.sl (Is x.shape), .sl (Its x.items)] := by cases x; simp only [Arr.dv]; rfl
theorem Its_map (xs : List Itm) : Its xs = xs.map Itm.dv := by induction xs with
  | nil => simp [Its]
  | cons x xs ih => simp [Its, ih]
theorem Ars_map (xs : List Arr) : Ars xs = xs.map Arr.dv := by induction xs with
  | nil => simp [Ars]
  | cons x xs ih => simp [Ars, ih]
theorem Is_length (xs : List Int) : (Is xs).length = xs.length := by simp [Is]
theorem Is_at {xs : List Int} {i : Nat} {x : Int} (h : xs[i]? = some x) : (Is xs)[i]? = some (.i .i64 x) := by simp [Is, h]
theorem Is_sz1 (xs : List Int) : ∀ x ∈ Is xs, x.cells.length = 1 := fun x hx => by
  simp only [Is, List.mem_map] at hx
  obtain ⟨n, _, rfl⟩ := hx; rfl
theorem Is_sz (xs : List Int) : ∃ sz, ∀ x ∈ Is xs, x.cells.length = sz := ⟨1, Is_sz1 xs⟩
theorem Is_app (xs ys : List Int) : Is (xs ++ ys) = Is xs ++ Is ys := by simp [Is]
theorem Is_flat (xs : List Int) : ∀ d ∈ Is xs, d.flat = true ∧ d.cells.length = 1 := fun x hx => by
  simp only [Is, List.mem_map] at hx
  obtain ⟨n, _, rfl⟩ := hx
  exact ⟨by simp [DV.flat, DV.cells, DV.leaf], rfl⟩
theorem Its_length (xs : List Itm) : (Its xs).length = xs.length := by simp [Its_map]
theorem Its_at {xs : List Itm} {i : Nat} {x : Itm} (h : xs[i]? = some x) : (Its xs)[i]? = some (.ag [.i .u8 x.kind, .b x.num.1, .sl (L x.num.2.1), .sl (L x.num.2.2), .i .i32 x.char, .sl (Ars x.box)]) := by rw [Its_map, List.getElem?_map, h, Option.map_some, Itm.dv_eq]
theorem Its_sz1 (xs : List Itm) : ∀ x ∈ Its xs, x.cells.length = 6 := fun x hx => by
  rw [Its_map, List.mem_map] at hx
  obtain ⟨n, _, rfl⟩ := hx; rw [Itm.dv_eq]; rfl
theorem Its_sz (xs : List Itm) : ∃ sz, ∀ x ∈ Its xs, x.cells.length = sz := ⟨6, Its_sz1 xs⟩
theorem Its_app (xs ys : List Itm) : Its (xs ++ ys) = Its xs ++ Its ys := by simp [Its_map]
theorem Its_tk (xs : List Itm) (n : Nat) : (Its xs).take n = Its (xs.take n) := by simp [Its_map, List.map_take]
theorem Its_flat (xs : List Itm) : ∀ d ∈ Its xs, d.flat = true ∧ d.cells.length = 6 := fun x hx => by
  rw [Its_map, List.mem_map] at hx
  obtain ⟨n, _, rfl⟩ := hx
  rw [Itm.dv_eq]
  exact ⟨by simp [DV.flat, DV.cells, DV.leaf], rfl⟩
theorem Its_bs1 (x : Itm) : Its [x] = [.ag [.i .u8 x.kind, .b x.num.1, .sl (L x.num.2.1), .sl (L x.num.2.2), .i .i32 x.char, .sl (Ars x.box)]] := by simp [Its_map, Itm.dv_eq]
theorem Ars_length (xs : List Arr) : (Ars xs).length = xs.length := by simp [Ars_map]
theorem Ars_at {xs : List Arr} {i : Nat} {x : Arr} (h : xs[i]? = some x) : (Ars xs)[i]? = some (.ag [.sl (Is x.shape), .sl (Its x.items)]) := by rw [Ars_map, List.getElem?_map, h, Option.map_some, Arr.dv_eq]
theorem Ars_sz1 (xs : List Arr) : ∀ x ∈ Ars xs, x.cells.length = 2 := fun x hx => by
  rw [Ars_map, List.mem_map] at hx
  obtain ⟨n, _, rfl⟩ := hx; rw [Arr.dv_eq]; rfl
theorem Ars_sz (xs : List Arr) : ∃ sz, ∀ x ∈ Ars xs, x.cells.length = sz := ⟨2, Ars_sz1 xs⟩
theorem Ars_app (xs ys : List Arr) : Ars (xs ++ ys) = Ars xs ++ Ars ys := by simp [Ars_map]
theorem Ars_flat (xs : List Arr) : ∀ d ∈ Ars xs, d.flat = true ∧ d.cells.length = 2 := fun x hx => by
  rw [Ars_map, List.mem_map] at hx
  obtain ⟨n, _, rfl⟩ := hx
  rw [Arr.dv_eq]
  exact ⟨by simp [DV.flat, DV.cells, DV.leaf], rfl⟩
theorem Ars_bs1 (x : Arr) : Ars [x] = [.ag [.sl (Is x.shape), .sl (Its x.items)]] := by simp [Ars_map, Arr.dv_eq]
theorem ga_ItemKind : aggT Tryz.prog 80 = some false := by kernel_rfl
theorem gz_Itm : szOf Tryz.prog 83 = 6 := by kernel_rfl
theorem gA_Itm : aggT Tryz.prog 83 = some true := by kernel_rfl
theorem gS_Itm : szOf Tryz.prog 83 = 6 := by kernel_rfl
theorem gF_Itm_0 : fieldT Tryz.prog 83 0 = some (0, 1) := by kernel_rfl
theorem gF_Itm_1 : fieldT Tryz.prog 83 1 = some (1, 3) := by kernel_rfl
theorem gF_Itm_2 : fieldT Tryz.prog 83 2 = some (4, 1) := by kernel_rfl
theorem gF_Itm_3 : fieldT Tryz.prog 83 3 = some (5, 1) := by kernel_rfl
theorem gP_Itm : structT Tryz.prog 83 = some [(0, 1), (1, 3), (4, 1), (5, 1)] := by kernel_rfl
theorem gI_Itm : (Tryz.prog.info? 83).bind (·.zero) = some (.agg #[.int .u8 0, .bool false, .slice none 0 0, .slice none 0 0, .int .i32 0, .slice none 0 0]) := by kernel_rfl
theorem gZA_Itm (w : World) (I : Nat → Prop) (μ : List Nat) : ARepAll Tryz.prog w I μ [.d (.i .u8 0), .d (.b false), .nl, .nl, .d (.i .i32 0), .nl] (Value.agg #[.int .u8 0, .bool false, .slice none 0 0, .slice none 0 0, .int .i32 0, .slice none 0 0]).cells.toList [] := ARepAll.cons (b1 := []) (b2 := []) (.d (.i _ _)) (ARepAll.cons (b1 := []) (b2 := []) (.d (.b _)) (ARepAll.cons (b1 := []) (b2 := []) (.nl) (ARepAll.cons (b1 := []) (b2 := []) (.nl) (ARepAll.cons (b1 := []) (b2 := []) (.d (.i _ _)) (ARepAll.cons (b1 := []) (b2 := []) (.nl) (.nil))))))
theorem gZ_Itm (w : World) (I : Nat → Prop) : RepAll w I [.i .u8 0, .b false, .sl [], .sl [], .i .i32 0, .sl []] (Value.agg #[.int .u8 0, .bool false, .slice none 0 0, .slice none 0 0, .int .i32 0, .slice none 0 0]).cells.toList := .cons (.i _ _) (.cons (.b _) (.cons (.sl0 _ _) (.cons (.sl0 _ _) (.cons (.i _ _) (.cons (.sl0 _ _) (.nil))))))
theorem gz_Arr : szOf Tryz.prog 25 = 2 := by kernel_rfl
theorem gA_Arr : aggT Tryz.prog 25 = some true := by kernel_rfl
theorem gS_Arr : szOf Tryz.prog 25 = 2 := by kernel_rfl
theorem gF_Arr_0 : fieldT Tryz.prog 25 0 = some (0, 1) := by kernel_rfl
theorem gF_Arr_1 : fieldT Tryz.prog 25 1 = some (1, 1) := by kernel_rfl
theorem gP_Arr : structT Tryz.prog 25 = some [(0, 1), (1, 1)] := by kernel_rfl
theorem gI_Arr : (Tryz.prog.info? 25).bind (·.zero) = some (.agg #[.slice none 0 0, .slice none 0 0]) := by kernel_rfl
theorem gZA_Arr (w : World) (I : Nat → Prop) (μ : List Nat) : ARepAll Tryz.prog w I μ [.nl, .nl] (Value.agg #[.slice none 0 0, .slice none 0 0]).cells.toList [] := ARepAll.cons (b1 := []) (b2 := []) (.nl) (ARepAll.cons (b1 := []) (b2 := []) (.nl) (.nil))
theorem gZ_Arr (w : World) (I : Nat → Prop) : RepAll w I [.sl [], .sl []] (Value.agg #[.slice none 0 0, .slice none 0 0]).cells.toList := .cons (.sl0 _ _) (.cons (.sl0 _ _) (.nil))
theorem gA_Ex : aggT Tryz.prog 69 = some true := by kernel_rfl
theorem gS_Ex : szOf Tryz.prog 69 = 2 := by kernel_rfl
theorem gF_Ex_0 : fieldT Tryz.prog 69 0 = some (0, 1) := by kernel_rfl
theorem gF_Ex_1 : fieldT Tryz.prog 69 1 = some (1, 1) := by kernel_rfl
theorem gP_Ex : structT Tryz.prog 69 = some [(0, 1), (1, 1)] := by kernel_rfl
theorem gI_Ex : (Tryz.prog.info? 69).bind (·.zero) = some (.agg #[.int .i64 0, .int .i64 0]) := by kernel_rfl
theorem gZA_Ex (w : World) (I : Nat → Prop) (μ : List Nat) : ARepAll Tryz.prog w I μ [.d (.i .i64 0), .d (.i .i64 0)] (Value.agg #[.int .i64 0, .int .i64 0]).cells.toList [] := ARepAll.cons (b1 := []) (b2 := []) (.d (.i _ _)) (ARepAll.cons (b1 := []) (b2 := []) (.d (.i _ _)) (.nil))
theorem gZ_Ex (w : World) (I : Nat → Prop) : RepAll w I [.i .i64 0, .i .i64 0] (Value.agg #[.int .i64 0, .int .i64 0]).cells.toList := .cons (.i _ _) (.cons (.i _ _) (.nil))
theorem ga_Is : aggT Tryz.prog 22 = some false := by kernel_rfl
theorem gs_Is : sliceT Tryz.prog 22 = some (3, 1, 8) := by kernel_rfl
theorem ge_Is : elemT Tryz.prog 22 = some (3, 1, 8, .int .i64 0) := by kernel_rfl
theorem gu_Is : Tryz.prog.underlying 22 = some (.slice (Tryz.prog.elem 22)) := by kernel_rfl
theorem gB_Is : (17592186044416 : Nat) * 8 ≤ 140737488355328 ∧ (17592186044416 : Nat) ≤ 9223372036854775807 := by decide
theorem ga_Its : aggT Tryz.prog 23 = some false := by kernel_rfl
theorem gz_Its : szOf Tryz.prog 23 = 1 := by kernel_rfl
theorem gs_Its : sliceT Tryz.prog 23 = some (83, 6, 96) := by kernel_rfl
theorem ge_Its : elemT Tryz.prog 23 = some (83, 6, 96, .agg #[.int .u8 0, .bool false, .slice none 0 0, .slice none 0 0, .int .i32 0, .slice none 0 0]) := by kernel_rfl
theorem gu_Its : Tryz.prog.underlying 23 = some (.slice (Tryz.prog.elem 23)) := by kernel_rfl
theorem gB_Its : (1466015503701 : Nat) * 96 ≤ 140737488355328 ∧ (1466015503701 : Nat) ≤ 9223372036854775807 := by decide
theorem ga_Ars : aggT Tryz.prog 81 = some false := by kernel_rfl
theorem gz_Ars : szOf Tryz.prog 81 = 1 := by kernel_rfl
theorem gs_Ars : sliceT Tryz.prog 81 = some (25, 2, 48) := by kernel_rfl
theorem ge_Ars : elemT Tryz.prog 81 = some (25, 2, 48, .agg #[.slice none 0 0, .slice none 0 0]) := by kernel_rfl
theorem gu_Ars : Tryz.prog.underlying 81 = some (.slice (Tryz.prog.elem 81)) := by kernel_rfl
theorem gB_Ars : (2932031007402 : Nat) * 48 ≤ 140737488355328 ∧ (2932031007402 : Nat) ≤ 9223372036854775807 := by decide
abbrev FT_Itm__bool : Type := FW (Itm) (Bool)
abbrev FO_Itm__bool (f : FT_Itm__bool) : Prop := f.OK Tryz.prog (fun x => [.ag [.i .u8 x.kind, .b x.num.1, .sl (L x.num.2.1), .sl (L x.num.2.2), .i .i32 x.char, .sl (Ars x.box)]]) (fun r => .d (.b r))

abbrev FT_Itm__Itm : Type := FW (Itm) (Itm)
abbrev FO_Itm__Itm (f : FT_Itm__Itm) : Prop := f.OK Tryz.prog (fun x => [.ag [.i .u8 x.kind, .b x.num.1, .sl (L x.num.2.1), .sl (L x.num.2.2), .i .i32 x.char, .sl (Ars x.box)]]) (fun r => .d (.ag [.i .u8 r.kind, .b r.num.1, .sl (L r.num.2.1), .sl (L r.num.2.2), .i .i32 r.char, .sl (Ars r.box)]))

abbrev FT_int__bool : Type := FW (Int) (Bool)
abbrev FO_int__bool (f : FT_int__bool) : Prop := f.OK Tryz.prog (fun x => [.i .i64 x]) (fun r => .d (.b r))

abbrev FT_Itm_Itm__bool : Type := FW (Itm × Itm) (Bool)
abbrev FO_Itm_Itm__bool (f : FT_Itm_Itm__bool) : Prop := f.OK Tryz.prog (fun x => [.ag [.i .u8 x.1.kind, .b x.1.num.1, .sl (L x.1.num.2.1), .sl (L x.1.num.2.2), .i .i32 x.1.char, .sl (Ars x.1.box)], .ag [.i .u8 x.2.kind, .b x.2.num.1, .sl (L x.2.num.2.1), .sl (L x.2.num.2.2), .i .i32 x.2.char, .sl (Ars x.2.box)]]) (fun r => .d (.b r))

abbrev FT_Arr_Arr__bool : Type := FW (Arr × Arr) (Bool)
abbrev FO_Arr_Arr__bool (f : FT_Arr_Arr__bool) : Prop := f.OK Tryz.prog (fun x => [.ag [.sl (Is x.1.shape), .sl (Its x.1.items)], .ag [.sl (Is x.2.shape), .sl (Its x.2.items)]]) (fun r => .d (.b r))

end Go.FL
/-
  GP: rat: differences, quotients, rounding.
-/
namespace Go.FL
open Go Go.Proofs

def rat_Sub (a0 : RT) (a1 : RT) : Option (RT × Int) := ((ratAllRight ([a0, a1])).bind fun x1 => (if x1 = true then ((ratOf a0).bind fun x2 => ((ratOf a1).bind fun x3 => ((ratLess x3).bind fun x4 => ((ratPlus x2 x4).bind fun x5 => ((ratLowest x5).bind fun x6 => (some (x6.1, x6.2))))))) else (some ((false, [], []), 22))))
theorem rat_Sub_ok {a0 : RT} {a1 : RT} {r : RT × Int} (h : rat_Sub a0 a1 = some r) :
    Fn Tryz.prog 136 [.ag [.b a0.1, .sl (L a0.2.1), .sl (L a0.2.2)], .ag [.b a1.1, .sl (L a1.2.1), .sl (L a1.2.2)]] (.tup [.d (.ag [.b r.1.1, .sl (L r.1.2.1), .sl (L r.1.2.2)]), .d (.i .i64 r.2)]) := by
  unfold rat_Sub at h
  refine Fn.ofC (rs := [.cell 4 32, .tmp 5]) (nt := 21) Tryz.func136 rfl rfl rfl (by simp) rfl ?_; refine .seq ?_; refine .region ?_; refine vk (vbx) ?_; refine vk (vbx) ?_; refine vk (van (zero_of gI_R) gZ_R) ?_; refine asd ?_; refine rn ?_; refine .gh (Gh.keep [2, 3, 4, 5] rfl) ?_; refine .seq ?_; refine .seq ?_; refine .region ?_; refine vk (vlda gA_R gS_R) ?_; refine vk (vlda gA_R gS_R) ?_; refine vk ((vbsl (RVs_flat [a0, a1]) ge_RVs).deep) ?_
  obtain ⟨x1, hx1, h⟩ := bnd h
  refine vk (vcl0 (ratAllRight_ok hx1) Tryz.call167) ?_; refine vk (vnt) ?_; refine rn ?_; refine .gh (Gh.keep [2, 3, 4, 5, 10] rfl) ?_
  by_cases hc : x1 = true
  · replace h := ite_t hc h
    refine cnf (ntf hc) ?_; refine .skip ?_
    show AW _ _ _ _ _ _
    refine .seq ?_; refine .drawn 9 mixed (by kernel_rfl) ?_; refine dv (vlda gA_R gS_R) ?_
    obtain ⟨x2, hx2, h⟩ := bnd h
    refine dv (vcl0 (ratOf_ok hx2) Tryz.call168) ?_; refine dv (vlda gA_R gS_R) ?_
    obtain ⟨x3, hx3, h⟩ := bnd h
    refine dv (vcl0 (ratOf_ok hx3) Tryz.call168) ?_
    obtain ⟨x4, hx4, h⟩ := bnd h
    refine dv (vcl0 (ratLess_ok hx4) Tryz.call205) ?_
    obtain ⟨x5, hx5, h⟩ := bnd h
    refine dv (vcl0 (ratPlus_ok hx5) Tryz.call204) ?_
    obtain ⟨x6, hx6, h⟩ := bnd h
    refine dv (VOK.tupd (vs := [.ag [.b x6.1.1, .sl (L x6.1.2.1), .sl (L x6.1.2.2)], .i .i64 x6.2]) (vcl0 (ratLowest_ok hx6) Tryz.call170)) ?_; refine dv (vex) ?_; refine dv (vex) ?_; refine dz ?_
    refine stn ?_ gS_R (by decide)
    refine asd ?_; refine rn ?_; refine .gh (Gh.keep [4, 5] rfl) ?_; refine .ret ?_
    cases h
    exact ⟨_, _, ⟨.inr rfl, gA_R, gS_R, (by decide : (0 : Nat) < 3)⟩, rfl, rfl⟩
  replace h := ite_f hc h
  refine cnt (ntt (bf hc)) ?_; refine .seq ?_; refine .region ?_; refine vk (vbd gP_R gI_R gZ_R) ?_
  refine stn ?_ gS_R (by decide)
  refine asd ?_; refine rn ?_; refine .gh (Gh.keep [2, 3, 4, 5] rfl) ?_; refine .ret ?_
  cases h
  exact ⟨_, _, ⟨.inr rfl, gA_R, gS_R, (by decide : (0 : Nat) < 3)⟩, rfl, rfl⟩

def rat_Div (a0 : RT) (a1 : RT) : Option (RT × Int) := ((ratAllRight ([a0, a1])).bind fun x1 => (if x1 = true then (if 0 < ((List.length a1.2.1 : Nat) : Int) then ((ratOf a0).bind fun x2 => ((ratTimes x2 ((a1.2.2, a1.2.1), a1.1)).bind fun x3 => ((ratLowest x3).bind fun x4 => (some (x4.1, x4.2))))) else (if 0 < ((List.length a0.2.1 : Nat) : Int) then (some ((false, [], []), 3)) else ((ratOfInt 1).bind fun x5 => (some (x5, 0))))) else (some ((false, [], []), 22))))
theorem rat_Div_ok {a0 : RT} {a1 : RT} {r : RT × Int} (h : rat_Div a0 a1 = some r) :
    Fn Tryz.prog 88 [.ag [.b a0.1, .sl (L a0.2.1), .sl (L a0.2.2)], .ag [.b a1.1, .sl (L a1.2.1), .sl (L a1.2.2)]] (.tup [.d (.ag [.b r.1.1, .sl (L r.1.2.1), .sl (L r.1.2.2)]), .d (.i .i64 r.2)]) := by
  unfold rat_Div at h
  refine Fn.ofC (rs := [.cell 4 32, .tmp 5]) (nt := 39) Tryz.func88 rfl rfl rfl (by simp) rfl ?_; refine .seq ?_; refine .region ?_; refine vk (vbx) ?_; refine vk (vbx) ?_; refine vk (van (zero_of gI_R) gZ_R) ?_; refine asd ?_; refine rn ?_; refine .gh (Gh.keep [2, 3, 4, 5] rfl) ?_; refine .seq ?_; refine .block ?_; refine .seq ?_; refine .region ?_; refine vk (vlda gA_R gS_R) ?_; refine vk (vlda gA_R gS_R) ?_; refine vk ((vbsl (RVs_flat [a0, a1]) ge_RVs).deep) ?_
  obtain ⟨x1, hx1, h⟩ := bnd h
  refine vk (vcl0 (ratAllRight_ok hx1) Tryz.call167) ?_; refine vk (vnt) ?_; refine asd ?_; refine rn ?_; refine .gh (Gh.keep [2, 3, 4, 5, 6] rfl) ?_
  by_cases hc : x1 = true
  · replace h := ite_t hc h
    refine cnf (ntf hc) ?_; refine .seq ?_; refine .region ?_; refine vk (vfa gF_R_1) ?_; refine vk (vldp ga_L) ?_; refine vk (vlnE (L_length _) (L_sz _) gu_L) ?_; refine vk (vbi) ?_; refine asd ?_; refine rn ?_; refine .gh (Gh.keep [2, 3, 4, 5, 13] rfl) ?_
    by_cases hc : 0 < ((List.length a1.2.1 : Nat) : Int)
    · replace h := ite_t hc h
      refine cnt (decide_eq_true hc) ?_; refine .seq ?_; refine .drawn 14 mixed (by kernel_rfl) ?_; refine dv (vlda gA_R gS_R) ?_
      obtain ⟨x2, hx2, h⟩ := bnd h
      refine dv (vcl0 (ratOf_ok hx2) Tryz.call168) ?_; refine dv (vfa gF_R_2) ?_; refine dv (vldp ga_L) ?_; refine dv (vfa gF_R_1) ?_; refine dv (vldp ga_L) ?_; refine dv (vbd gP_Z gI_Z gZ_Z) ?_; refine dv (vfa gF_R_0) ?_; refine dv (vldp ga_bool) ?_; refine dv (vbd gP_N gI_N gZ_N) ?_
      obtain ⟨x3, hx3, h⟩ := bnd h
      refine dv (vcl0 (ratTimes_ok hx3) Tryz.call169) ?_
      obtain ⟨x4, hx4, h⟩ := bnd h
      refine dv (VOK.tupd (vs := [.ag [.b x4.1.1, .sl (L x4.1.2.1), .sl (L x4.1.2.2)], .i .i64 x4.2]) (vcl0 (ratLowest_ok hx4) Tryz.call170)) ?_; refine dv (vex) ?_; refine dv (vex) ?_; refine dz ?_
      refine stn ?_ gS_R (by decide)
      refine asd ?_; refine rn ?_; refine .gh (Gh.keep [4, 5] rfl) ?_; refine .ret ?_
      cases h
      exact ⟨_, _, ⟨.inr rfl, gA_R, gS_R, (by decide : (0 : Nat) < 3)⟩, rfl, rfl⟩
    replace h := ite_f hc h
    refine cnf (decide_eq_false hc) ?_; refine .seq ?_; refine .region ?_; refine vk (vfa gF_R_1) ?_; refine vk (vldp ga_L) ?_; refine vk (vlnE (L_length _) (L_sz _) gu_L) ?_; refine vk (vbi) ?_; refine asd ?_; refine rn ?_; refine .gh (Gh.keep [4, 5, 32] rfl) ?_
    by_cases hc : 0 < ((List.length a0.2.1 : Nat) : Int)
    · replace h := ite_t hc h
      refine cnt (decide_eq_true hc) ?_; refine .seq ?_; refine .region ?_; refine vk (vbd gP_R gI_R gZ_R) ?_
      refine stn ?_ gS_R (by decide)
      refine asd ?_; refine rn ?_; refine .gh (Gh.keep [4, 5] rfl) ?_; refine .ret ?_
      cases h
      exact ⟨_, _, ⟨.inr rfl, gA_R, gS_R, (by decide : (0 : Nat) < 3)⟩, rfl, rfl⟩
    replace h := ite_f hc h
    refine cnf (decide_eq_false hc) ?_; refine .skip ?_
    show AW _ _ _ _ _ _
    refine .seq ?_; refine .region ?_
    obtain ⟨x5, hx5, h⟩ := bnd h
    refine vk (vcl0 (ratOfInt_ok hx5) Tryz.call72) ?_
    refine stn ?_ gS_R (by decide)
    refine asd ?_; refine rn ?_; refine .gh (Gh.keep [4, 5] rfl) ?_; refine .ret ?_
    cases h
    exact ⟨_, _, ⟨.inr rfl, gA_R, gS_R, (by decide : (0 : Nat) < 3)⟩, rfl, rfl⟩
  replace h := ite_f hc h
  refine cnt (ntt (bf hc)) ?_; refine .seq ?_; refine .region ?_; refine vk (vbd gP_R gI_R gZ_R) ?_
  refine stn ?_ gS_R (by decide)
  refine asd ?_; refine rn ?_; refine .gh (Gh.keep [4, 5] rfl) ?_; refine .ret ?_
  cases h
  exact ⟨_, _, ⟨.inr rfl, gA_R, gS_R, (by decide : (0 : Nat) < 3)⟩, rfl, rfl⟩

def rat_copied (a0 : RT) (a1 : Bool) : Option (RT × Int) := ((ratRight a0).bind fun x1 => (if x1 = true then (Option.bind ((if a1 = true then ((sCloneL a0.2.1).bind fun x3 => ((sCloneL a0.2.2).bind fun x4 => (some ((decide (0 < ((List.length a0.2.1 : Nat) : Int))), x3, x4)))) else ((sCloneL a0.2.1).bind fun x5 => ((sCloneL a0.2.2).bind fun x6 => (some (false, x5, x6))))) : Option (RT)) fun (z2 : RT) => (some (z2, 0))) else (some ((false, [], []), 22))))
theorem rat_copied_ok {a0 : RT} {a1 : Bool} {r : RT × Int} (h : rat_copied a0 a1 = some r) :
    Fn Tryz.prog 161 [.ag [.b a0.1, .sl (L a0.2.1), .sl (L a0.2.2)], .b a1] (.tup [.d (.ag [.b r.1.1, .sl (L r.1.2.1), .sl (L r.1.2.2)]), .d (.i .i64 r.2)]) := by
  unfold rat_copied at h
  refine Fn.ofC (rs := [.cell 4 32, .tmp 5]) (nt := 24) Tryz.func161 rfl rfl rfl (by simp) rfl ?_; refine .seq ?_; refine .region ?_; refine vk (vbx) ?_; refine vk (van (zero_of gI_R) gZ_R) ?_; refine asd ?_; refine rn ?_; refine .gh (Gh.keep [1, 2, 4, 5] rfl) ?_; refine .seq ?_; refine .seq ?_; refine .region ?_; refine vk (vlda gA_R gS_R) ?_
  obtain ⟨x1, hx1, h⟩ := bnd h
  refine vk (vcl0 (ratRight_ok hx1) Tryz.call45) ?_; refine vk (vnt) ?_; refine rn ?_; refine .gh (Gh.keep [1, 2, 4, 5, 8] rfl) ?_
  by_cases hc : x1 = true
  · replace h := ite_t hc h
    refine cnf (ntf hc) ?_; refine .skip ?_
    show AW _ _ _ _ _ _
    refine .seq ?_
    obtain ⟨z2, hz, h⟩ := bnd h
    refine AW.mr (σ := Unit) (fun _ => True) (fun _ => [(4, .nb [.b z2.1, .sl (L z2.2.1), .sl (L z2.2.2)]), (5, .d (.i .i64 0))]) (fun _ => []) ?_ ?_
    · skip
      refine .drawn 14 mixed (by kernel_rfl) ?_; refine dv (vmvd) ?_
      by_cases hc : a1 = true
      · replace hz := ite_t hc hz
        have hb0 : a1 = true := hc
        refine dv (VOK.lit (vmvd) hb0) ?_; refine dv (vfa gF_R_1) ?_; refine dv (vldp ga_L) ?_; refine dv (vlnE (L_length _) (L_sz _) gu_L) ?_; refine dv (vbi) ?_; refine dv (vpkd) ?_; refine dv (vfa gF_R_1) ?_; refine dv (vldp ga_L) ?_
        obtain ⟨x3, hx3, hz⟩ := bnd hz
        refine dv ((vcl0 (sCloneL_ok hx3) Tryz.call215).deep) ?_; refine dv (vfa gF_R_2) ?_; refine dv (vldp ga_L) ?_
        obtain ⟨x4, hx4, hz⟩ := bnd hz
        refine dv ((vcl0 (sCloneL_ok hx4) Tryz.call215).deep) ?_; refine dv (vbd gP_R gI_R gZ_R) ?_; refine dz ?_
        refine stn ?_ gS_R (by decide)
        refine asd ?_; refine RL.gh (Gh.keep [4, 5] rfl) ?_; refine .nil ?_
        cases hz
        exact jr () trivial
      replace hz := ite_f hc hz
      have hb0 : a1 = false := (bf hc)
      refine dv (VOK.lit (vmvd) hb0) ?_; refine dgf ?_; refine dgf ?_; refine dgf ?_; refine dgf ?_; refine dv (vpkd) ?_; refine dv (vfa gF_R_1) ?_; refine dv (vldp ga_L) ?_
      obtain ⟨x5, hx5, hz⟩ := bnd hz
      refine dv ((vcl0 (sCloneL_ok hx5) Tryz.call215).deep) ?_; refine dv (vfa gF_R_2) ?_; refine dv (vldp ga_L) ?_
      obtain ⟨x6, hx6, hz⟩ := bnd hz
      refine dv ((vcl0 (sCloneL_ok hx6) Tryz.call215).deep) ?_; refine dv (vbd gP_R gI_R gZ_R) ?_; refine dz ?_
      refine stn ?_ gS_R (by decide)
      refine asd ?_; refine RL.gh (Gh.keep [4, 5] rfl) ?_; refine .nil ?_
      cases hz
      exact jr () trivial
    rintro _ _
    refine .ret ?_
    cases h
    exact ⟨_, _, ⟨.inr rfl, gA_R, gS_R, (by decide : (0 : Nat) < 3)⟩, rfl, rfl⟩
  replace h := ite_f hc h
  refine cnt (ntt (bf hc)) ?_; refine .seq ?_; refine .region ?_; refine vk (vbd gP_R gI_R gZ_R) ?_
  refine stn ?_ gS_R (by decide)
  refine asd ?_; refine rn ?_; refine .gh (Gh.keep [1, 2, 4, 5] rfl) ?_; refine .ret ?_
  cases h
  exact ⟨_, _, ⟨.inr rfl, gA_R, gS_R, (by decide : (0 : Nat) < 3)⟩, rfl, rfl⟩

def rat_whole (a0 : RT) (a1 : Bool) : Option (RT × Int) := ((ratRight a0).bind fun x1 => (if x1 = true then ((nDivMod a0.2.1 a0.2.2).bind fun x2 => (if (a1 && (decide (0 < ((List.length x2.2.1 : Nat) : Int)))) = true then (ratOne.bind fun x3 => ((nSum ([x2.1, x3])).bind fun x4 => (ratOne.bind fun x5 => ((ratLowest ((x4, x5), a0.1)).bind fun x6 => (some (x6.1, x6.2)))))) else (ratOne.bind fun x7 => ((ratLowest ((x2.1, x7), a0.1)).bind fun x8 => (some (x8.1, x8.2)))))) else (some ((false, [], []), 22))))
theorem rat_whole_ok {a0 : RT} {a1 : Bool} {r : RT × Int} (h : rat_whole a0 a1 = some r) :
    Fn Tryz.prog 162 [.ag [.b a0.1, .sl (L a0.2.1), .sl (L a0.2.2)], .b a1] (.tup [.d (.ag [.b r.1.1, .sl (L r.1.2.1), .sl (L r.1.2.2)]), .d (.i .i64 r.2)]) := by
  unfold rat_whole at h
  refine Fn.ofC (rs := [.cell 4 32, .tmp 5]) (nt := 41) Tryz.func162 rfl rfl rfl (by simp) rfl ?_; refine .seq ?_; refine .region ?_; refine vk (vbx) ?_; refine vk (van (zero_of gI_R) gZ_R) ?_; refine asd ?_; refine rn ?_; refine .gh (Gh.keep [1, 2, 4, 5] rfl) ?_; refine .seq ?_; refine .seq ?_; refine .region ?_; refine vk (vlda gA_R gS_R) ?_
  obtain ⟨x1, hx1, h⟩ := bnd h
  refine vk (vcl0 (ratRight_ok hx1) Tryz.call45) ?_; refine vk (vnt) ?_; refine rn ?_; refine .gh (Gh.keep [1, 2, 4, 5, 11] rfl) ?_
  by_cases hc : x1 = true
  · replace h := ite_t hc h
    refine cnf (ntf hc) ?_; refine .skip ?_
    show AW _ _ _ _ _ _
    refine .seq ?_; refine .region ?_; refine vk (vfa gF_R_1) ?_; refine vk (vldp ga_L) ?_; refine vk (vfa gF_R_2) ?_; refine vk (vldp ga_L) ?_
    obtain ⟨x2, hx2, h⟩ := bnd h
    refine vk (VOK.tupd (vs := [.sl (L x2.1), .sl (L x2.2.1), .b x2.2.2]) (vcl0 (nDivMod_ok hx2) Tryz.call199)) ?_; refine vk (vmvd) ?_; refine vk (vex) ?_; refine vk (vex) ?_; refine vk (vex) ?_; refine asd ?_; refine asd ?_; refine asd ?_; refine rn ?_; refine .gh (Gh.keep [1, 2, 4, 5, 6, 7] rfl) ?_; refine .seq ?_; refine .seq ?_; refine AW.mr (σ := Unit) (fun _ => True) (fun _ => [(2, .d (.ptr [.b a0.1, .sl (L a0.2.1), .sl (L a0.2.2)])), (4, .nb [.b false, .sl (L []), .sl (L [])]), (5, .d (.i .i64 0)), (6, .d (.sl (L x2.1))), (27, .d (.b (a1 && (decide (0 < ((List.length x2.2.1 : Nat) : Int))))))]) (fun _ => []) ?_ ?_
    · skip
      refine .region ?_; refine vk (vmvd) ?_
      by_cases hc : a1 = true
      · have hb0 : a1 = true := hc
        refine vk (VOK.lit (vmvd) hb0) ?_; refine vk (vmvd) ?_; refine vk (vlnE (L_length _) (L_sz _) gu_L) ?_; refine vk (vbi) ?_; refine vk (vpkd) ?_; refine RL.gh (Gh.keep [2, 4, 5, 6, 27] rfl) ?_; refine .nil ?_
        exact jr () trivial (by simp only [hb0]; rfl)
      have hb0 : a1 = false := (bf hc)
      refine vk (VOK.lit (vmvd) hb0) ?_; refine gf ?_; refine gf ?_; refine gf ?_; refine vk (vpkd) ?_; refine RL.gh (Gh.keep [2, 4, 5, 6, 27] rfl) ?_; refine .nil ?_
      exact jr () trivial (by simp only [hb0]; rfl)
    rintro _ _
    by_cases hc : (a1 && (decide (0 < ((List.length x2.2.1 : Nat) : Int)))) = true
    · replace h := ite_t hc h
      refine cnt hc ?_; refine .region ?_; refine vk (vmvd) ?_
      obtain ⟨x3, hx3, h⟩ := bnd h
      refine vk ((vcl0 (ratOne_ok hx3) Tryz.call121).deep) ?_; refine vk ((vbsl (LL_flat [x2.1, x3]) ge_LL).deep) ?_
      obtain ⟨x4, hx4, h⟩ := bnd h
      refine vk (vcl0 (nSum_ok hx4) Tryz.call165) ?_; refine asd ?_; refine rn ?_; refine .gh (Gh.keep [2, 4, 5, 6] rfl) ?_; refine .seq ?_; refine .drawn 9 mixed (by kernel_rfl) ?_; refine dv (vmvd) ?_
      obtain ⟨x5, hx5, h⟩ := bnd h
      refine dv ((vcl0 (ratOne_ok hx5) Tryz.call121).deep) ?_; refine dv (vbd gP_Z gI_Z gZ_Z) ?_; refine dv (vfa gF_R_0) ?_; refine dv (vldp ga_bool) ?_; refine dv (vbd gP_N gI_N gZ_N) ?_
      obtain ⟨x6, hx6, h⟩ := bnd h
      refine dv (VOK.tupd (vs := [.ag [.b x6.1.1, .sl (L x6.1.2.1), .sl (L x6.1.2.2)], .i .i64 x6.2]) (vcl0 (ratLowest_ok hx6) Tryz.call170)) ?_; refine dv (vex) ?_; refine dv (vex) ?_; refine dz ?_
      refine stn ?_ gS_R (by decide)
      refine asd ?_; refine rn ?_; refine .gh (Gh.keep [4, 5] rfl) ?_; refine .ret ?_
      cases h
      exact ⟨_, _, ⟨.inr rfl, gA_R, gS_R, (by decide : (0 : Nat) < 3)⟩, rfl, rfl⟩
    replace h := ite_f hc h
    refine cnf (bf hc) ?_; refine .skip ?_
    show AW _ _ _ _ _ _
    refine .seq ?_; refine .drawn 9 mixed (by kernel_rfl) ?_; refine dv (vmvd) ?_
    obtain ⟨x7, hx7, h⟩ := bnd h
    refine dv ((vcl0 (ratOne_ok hx7) Tryz.call121).deep) ?_; refine dv (vbd gP_Z gI_Z gZ_Z) ?_; refine dv (vfa gF_R_0) ?_; refine dv (vldp ga_bool) ?_; refine dv (vbd gP_N gI_N gZ_N) ?_
    obtain ⟨x8, hx8, h⟩ := bnd h
    refine dv (VOK.tupd (vs := [.ag [.b x8.1.1, .sl (L x8.1.2.1), .sl (L x8.1.2.2)], .i .i64 x8.2]) (vcl0 (ratLowest_ok hx8) Tryz.call170)) ?_; refine dv (vex) ?_; refine dv (vex) ?_; refine dz ?_
    refine stn ?_ gS_R (by decide)
    refine asd ?_; refine rn ?_; refine .gh (Gh.keep [4, 5] rfl) ?_; refine .ret ?_
    cases h
    exact ⟨_, _, ⟨.inr rfl, gA_R, gS_R, (by decide : (0 : Nat) < 3)⟩, rfl, rfl⟩
  replace h := ite_f hc h
  refine cnt (ntt (bf hc)) ?_; refine .seq ?_; refine .region ?_; refine vk (vbd gP_R gI_R gZ_R) ?_
  refine stn ?_ gS_R (by decide)
  refine asd ?_; refine rn ?_; refine .gh (Gh.keep [1, 2, 4, 5] rfl) ?_; refine .ret ?_
  cases h
  exact ⟨_, _, ⟨.inr rfl, gA_R, gS_R, (by decide : (0 : Nat) < 3)⟩, rfl, rfl⟩

def rat_Floor (a0 : RT) : Option (RT × Int) := ((rat_whole a0 a0.1).bind fun x1 => (some (x1.1, x1.2)))
theorem rat_Floor_ok {a0 : RT} {r : RT × Int} (h : rat_Floor a0 = some r) :
    Fn Tryz.prog 81 [.ag [.b a0.1, .sl (L a0.2.1), .sl (L a0.2.2)]] (.tup [.d (.ag [.b r.1.1, .sl (L r.1.2.1), .sl (L r.1.2.2)]), .d (.i .i64 r.2)]) := by
  unfold rat_Floor at h
  refine Fn.ofC (rs := [.cell 2 32, .tmp 3]) (nt := 10) Tryz.func81 rfl rfl rfl (by simp) rfl ?_; refine .seq ?_; refine .region ?_; refine vk (vbx) ?_; refine vk (van (zero_of gI_R) gZ_R) ?_; refine asd ?_; refine rn ?_; refine .gh (Gh.keep [1, 2, 3] rfl) ?_; refine .seq ?_; refine .region ?_; refine vk (vlda gA_R gS_R) ?_; refine vk (vfa gF_R_0) ?_; refine vk (vldp ga_bool) ?_
  obtain ⟨x1, hx1, h⟩ := bnd h
  refine vk (VOK.tupd (vs := [.ag [.b x1.1.1, .sl (L x1.1.2.1), .sl (L x1.1.2.2)], .i .i64 x1.2]) (vcl0 (rat_whole_ok hx1) Tryz.call162)) ?_; refine vk (vex) ?_; refine vk (vex) ?_
  refine stn ?_ gS_R (by decide)
  refine asd ?_; refine rn ?_; refine .gh (Gh.keep [2, 3] rfl) ?_; refine .ret ?_
  cases h
  exact ⟨_, _, ⟨.inr rfl, gA_R, gS_R, (by decide : (0 : Nat) < 3)⟩, rfl, rfl⟩

def rat_Sign (a0 : RT) : Option (Int) := ((ratRight a0).bind fun x1 => (if ((!x1) || (decide (((List.length a0.2.1 : Nat) : Int) = 0))) = true then (some (0)) else (if a0.1 = true then (some ((-1))) else (some (1)))))
theorem rat_Sign_ok {a0 : RT} {r : Int} (h : rat_Sign a0 = some r) :
    Fn Tryz.prog 86 [.ag [.b a0.1, .sl (L a0.2.1), .sl (L a0.2.2)]] (.d (.i .i64 r)) := by
  unfold rat_Sign at h
  refine Fn.of (rs := [.tmp 2]) (nt := 16) Tryz.func86 rfl rfl rfl (by simp) rfl ?_; refine .seq ?_; refine .region ?_; refine vk (vbx) ?_; refine asd ?_; refine rn ?_; refine .gh (Gh.keep [1, 2] rfl) ?_; refine .seq ?_; refine .block ?_; refine .seq ?_
  obtain ⟨x1, hx1, h⟩ := bnd h
  refine AW.mr (σ := Unit) (fun _ => True) (fun _ => [(1, .d (.ptr [.b a0.1, .sl (L a0.2.1), .sl (L a0.2.2)])), (2, .d (.i .i64 0)), (3, .d (.b ((!x1) || (decide (((List.length a0.2.1 : Nat) : Int) = 0)))))]) (fun _ => []) ?_ ?_
  · skip
    refine .region ?_; refine vk (vlda gA_R gS_R) ?_; refine vk (vcl0 (ratRight_ok hx1) Tryz.call45) ?_; refine vk (vnt) ?_
    by_cases hc : x1 = true
    · have hb0 : (!x1) = false := (ntf hc)
      refine vk (VOK.lit (vmvd) hb0) ?_; refine vk (vfa gF_R_1) ?_; refine vk (vldp ga_L) ?_; refine vk (vlnE (L_length _) (L_sz _) gu_L) ?_; refine vk (vbi) ?_; refine vk (vpkd) ?_; refine asd ?_; refine RL.gh (Gh.keep [1, 2, 3] rfl) ?_; refine .nil ?_
      exact jr () trivial (by simp only [hb0]; rfl)
    have hb0 : (!x1) = true := (ntt (bf hc))
    refine vk (VOK.lit (vmvd) hb0) ?_; refine gf ?_; refine gf ?_; refine gf ?_; refine gf ?_; refine vk (vpkd) ?_; refine asd ?_; refine RL.gh (Gh.keep [1, 2, 3] rfl) ?_; refine .nil ?_
    exact jr () trivial (by simp only [hb0]; rfl)
  rintro _ _
  by_cases hc : ((!x1) || (decide (((List.length a0.2.1 : Nat) : Int) = 0))) = true
  · replace h := ite_t hc h
    refine cnt hc ?_; refine .seq ?_; refine .region ?_; refine asd ?_; refine rn ?_; refine .gh (Gh.keep [2] rfl) ?_; refine .ret ?_
    cases h
    exact ⟨rfl, rfl⟩
  replace h := ite_f hc h
  refine cnf (bf hc) ?_; refine .seq ?_; refine .region ?_; refine vk (vfa gF_R_0) ?_; refine vk (vldp ga_bool) ?_; refine asd ?_; refine rn ?_; refine .gh (Gh.keep [2, 13] rfl) ?_
  by_cases hc : a0.1 = true
  · replace h := ite_t hc h
    refine cnt hc ?_; refine .seq ?_; refine .region ?_; refine asd ?_; refine rn ?_; refine .gh (Gh.keep [2] rfl) ?_; refine .ret ?_
    cases h
    exact ⟨rfl, rfl⟩
  replace h := ite_f hc h
  refine cnf (bf hc) ?_; refine .skip ?_
  show AW _ _ _ _ _ _
  refine .seq ?_; refine .region ?_; refine asd ?_; refine rn ?_; refine .gh (Gh.keep [2] rfl) ?_; refine .ret ?_
  cases h
  exact ⟨rfl, rfl⟩

def rat_IsInt (a0 : RT) : Option (Bool) := ((ratRight a0).bind fun x1 => (Option.bind ((if x1 = true then (ratOne.bind fun x3 => ((sEqualL a0.2.2 x3).bind fun x4 => (some x4))) else (some false)) : Option (Bool)) fun (z1 : Bool) => (some (z1))))
theorem rat_IsInt_ok {a0 : RT} {r : Bool} (h : rat_IsInt a0 = some r) :
    Fn Tryz.prog 206 [.ag [.b a0.1, .sl (L a0.2.1), .sl (L a0.2.2)]] (.d (.b r)) := by
  unfold rat_IsInt at h
  refine Fn.of (rs := [.tmp 2]) (nt := 11) Tryz.func206 rfl rfl rfl (by simp) rfl ?_; refine .seq ?_; refine .region ?_; refine vk (vbx) ?_; refine asd ?_; refine rn ?_; refine .gh (Gh.keep [1, 2] rfl) ?_; refine .seq ?_
  obtain ⟨x1, hx1, h⟩ := bnd h
  obtain ⟨z1, hz, h⟩ := bnd h
  refine AW.mr (σ := Unit) (fun _ => True) (fun _ => [(2, .d (.b z1))]) (fun _ => []) ?_ ?_
  · skip
    refine .drawn 8 mixed (by kernel_rfl) ?_; refine dv (vlda gA_R gS_R) ?_; refine dv (vcl0 (ratRight_ok hx1) Tryz.call45) ?_
    by_cases hc : x1 = true
    · replace hz := ite_t hc hz
      have hb0 : x1 = true := hc
      refine dv (VOK.lit (vmvd) hb0) ?_; refine dv (vfa gF_R_2) ?_; refine dv (vldp ga_L) ?_
      obtain ⟨x3, hx3, hz⟩ := bnd hz
      refine dv ((vcl0 (ratOne_ok hx3) Tryz.call121).deep) ?_
      obtain ⟨x4, hx4, hz⟩ := bnd hz
      refine dv (vcl0 (sEqualL_ok hx4) Tryz.call112) ?_; refine dv (vpkd) ?_; refine dz ?_; refine asd ?_; refine RL.gh (Gh.keep [2] rfl) ?_; refine .nil ?_
      cases hz
      exact jr () trivial
    replace hz := ite_f hc hz
    have hb0 : x1 = false := (bf hc)
    refine dv (VOK.lit (vmvd) hb0) ?_; refine dgf ?_; refine dgf ?_; refine dgf ?_; refine dgf ?_; refine dv (vpkd) ?_; refine dz ?_; refine asd ?_; refine RL.gh (Gh.keep [2] rfl) ?_; refine .nil ?_
    cases hz
    exact jr () trivial
  rintro _ _
  refine .ret ?_
  cases h
  exact ⟨rfl, rfl⟩

def rat_natural (a0 : RT) : Option (Bool) := ((rat_IsInt a0).bind fun x1 => (some ((x1 && (!a0.1)))))
theorem rat_natural_ok {a0 : RT} {r : Bool} (h : rat_natural a0 = some r) :
    Fn Tryz.prog 163 [.ag [.b a0.1, .sl (L a0.2.1), .sl (L a0.2.2)]] (.d (.b r)) := by
  unfold rat_natural at h
  refine Fn.of (rs := [.tmp 2]) (nt := 10) Tryz.func163 rfl rfl rfl (by simp) rfl ?_; refine .seq ?_; refine .region ?_; refine vk (vbx) ?_; refine asd ?_; refine rn ?_; refine .gh (Gh.keep [1, 2] rfl) ?_; refine .seq ?_
  obtain ⟨x1, hx1, h⟩ := bnd h
  refine AW.mr (σ := Unit) (fun _ => True) (fun _ => [(2, .d (.b (x1 && (!a0.1))))]) (fun _ => []) ?_ ?_
  · skip
    refine .region ?_; refine vk (vlda gA_R gS_R) ?_; refine vk (vcl0 (rat_IsInt_ok hx1) Tryz.call206) ?_
    by_cases hc : x1 = true
    · have hb0 : x1 = true := hc
      refine vk (VOK.lit (vmvd) hb0) ?_; refine vk (vfa gF_R_0) ?_; refine vk (vldp ga_bool) ?_; refine vk (vnt) ?_; refine vk (vpkd) ?_; refine asd ?_; refine RL.gh (Gh.keep [2] rfl) ?_; refine .nil ?_
      exact jr () trivial (by simp only [hb0]; rfl)
    have hb0 : x1 = false := (bf hc)
    refine vk (VOK.lit (vmvd) hb0) ?_; refine gf ?_; refine gf ?_; refine gf ?_; refine vk (vpkd) ?_; refine asd ?_; refine RL.gh (Gh.keep [2] rfl) ?_; refine .nil ?_
    exact jr () trivial (by simp only [hb0]; rfl)
  rintro _ _
  refine .ret ?_
  cases h
  exact ⟨rfl, rfl⟩
end Go.FL
/-
  GP: array: sizes, items, copies.
-/
namespace Go.FL
open Go Go.Proofs

def slices_IndexFunc_int_int_l1 (a0 : (List Int)) (a1 : FT_int__bool) (K0 : Int → Option (Int)) : Nat → Int → Int → Option (Int)
  | 0, _, _ => none
  | k + 1, s2, s3 => (if s3 < ((List.length a0 : Nat) : Int) then ((rd? a0 s3).bind fun x4 => ((a1.g x4).bind fun x5 => (if x5 = true then (some (s3)) else (slices_IndexFunc_int_int_l1 a0 a1 K0 k s2 (w64 (s3 + 1)))))) else (K0 s2))
def slices_IndexFunc_int_int (a0 : (List Int)) (a1 : FT_int__bool) : Option (Int) := (jn (fun (z1 : Int) => (some ((-1)))) fun K0 => (slices_IndexFunc_int_int_l1 a0 a1 K0 FUEL 0 0))
theorem slices_IndexFunc_int_int_ok {a0 : (List Int)} {a1 : FT_int__bool} (oa1 : FO_int__bool a1) {r : Int} (h : slices_IndexFunc_int_int a0 a1 = some r) :
    Fn Tryz.prog 225 [.sl (Is a0), a1.dv] (.d (.i .i64 r)) := by
  unfold slices_IndexFunc_int_int at h
  refine Fn.of (rs := [.tmp 4]) (nt := 19) Tryz.func225 rfl rfl rfl (by simp) rfl ?_; refine .seq ?_; refine .region ?_; refine asd ?_; refine rn ?_; refine .gh (Gh.keep [0, 1, 4] rfl) ?_; refine .seq ?_; refine .seq ?_; refine .region ?_; refine vk (vmvd) ?_; refine vk (vlnE (Is_length _) (Is_sz _) gu_Is) ?_; refine vk (vmvd) ?_; refine rn ?_; refine .gh (Gh.keep [0, 1, 4, 7, 8] rfl) ?_
  obtain ⟨K0, hK0, h⟩ := jn_out h
  refine AW.mr (σ := Int) (fun p => K0 p = some r) (fun p => [(4, .d (.i .i64 p))]) (fun p => []) ?_ ?_
  · skip
    refine .block ?_
    refine .loop (.gh (Gh.keep [0, 1, 4, 7, 8] rfl) ?_)
    refine AL.ind (σ := Nat × Int × Int) (m := fun p => p.1) (e := fun p => [(0, .d (.sl (Is a0))), (1, .d (a1.dv)), (4, .d (.i .i64 p.2.1)), (7, .d (.i .i64 ((List.length a0 : Nat) : Int))), (8, .d (.i .i64 p.2.2))]) (h := fun p => []) (I := fun p => slices_IndexFunc_int_int_l1 a0 a1 K0 p.1 p.2.1 p.2.2 = some r) ?_ (FUEL, 0, 0) h
    rintro ⟨k, s2, s3⟩ h ih
    dsimp only at h ih ⊢
    rcases k with _ | k
    · rw [slices_IndexFunc_int_int_l1] at h; cases h
    rw [slices_IndexFunc_int_int_l1] at h
    refine .seq ?_; refine .region ?_; refine vk (vbi) ?_; refine rn ?_; refine .gh (Gh.keep [0, 1, 4, 7, 8, 9] rfl) ?_; refine .seq ?_
    by_cases hc : s3 < ((List.length a0 : Nat) : Int)
    · replace h := ite_t hc h
      refine cnt (decide_eq_true hc) ?_; refine .skip ?_
      show AW _ _ _ _ _ _
      refine .seq ?_; refine .block ?_; refine .seq ?_; refine .region ?_; refine vk (vmvd) ?_; refine asd ?_; refine rn ?_; refine .gh (Gh.keep [0, 1, 4, 5, 7, 8] rfl) ?_; refine .seq ?_; refine .region ?_; refine vk (vmvd) ?_; refine vk (vmvd) ?_; refine vk (vmvd) ?_
      obtain ⟨x4, hx4, h⟩ := bnd h
      obtain ⟨nx4, hnx4, hxx4⟩ := rd_some hx4
      refine vk (vix nx4 hnx4 (Is_at hxx4) rfl gs_Is) ?_; refine vk (vldp ga_int) ?_
      obtain ⟨x5, hx5, h⟩ := bnd h
      refine vk (vclv (oa1 _ _ hx5)) ?_; refine rn ?_; refine .gh (Gh.keep [0, 1, 4, 5, 7, 8, 16] rfl) ?_
      by_cases hc : x5 = true
      · replace h := ite_t hc h
        refine cnt hc ?_; refine .seq ?_; refine .region ?_; refine vk (vmvd) ?_; refine asd ?_; refine rn ?_; refine .gh (Gh.keep [0, 1, 4, 7, 8] rfl) ?_; refine .ret ?_
        cases h
        exact ⟨rfl, rfl⟩
      replace h := ite_f hc h
      refine cnf (bf hc) ?_; refine .skip ?_
      show AW _ _ _ _ _ _
      refine .region ?_; refine vk (vbi) ?_; refine vk (vmvd) ?_; refine .nil ?_; refine AL.gh (Gh.keep [0, 1, 4, 7, 8] rfl) ?_
      exact ih (k, s2, (w64 (s3 + 1))) h (Nat.lt_succ_self _)
    replace h := ite_f hc h
    refine cnf (decide_eq_false hc) ?_; refine .gh (Gh.keep [4] rfl) ?_; refine .exit ?_
    exact jr (s2) h
  rintro z1 h
  try dsimp only at h ⊢
  subst hK0
  show AW _ _ _ _ _ _
  refine .seq ?_; refine .region ?_; refine asd ?_; refine rn ?_; refine .gh (Gh.keep [4] rfl) ?_; refine .ret ?_
  cases h
  exact ⟨rfl, rfl⟩

def slices_ContainsFunc_int_int (a0 : (List Int)) (a1 : FT_int__bool) : Option (Bool) := ((slices_IndexFunc_int_int a0 a1).bind fun x1 => (some ((decide (0 ≤ x1)))))
theorem slices_ContainsFunc_int_int_ok {a0 : (List Int)} {a1 : FT_int__bool} (oa1 : FO_int__bool a1) {r : Bool} (h : slices_ContainsFunc_int_int a0 a1 = some r) :
    Fn Tryz.prog 175 [.sl (Is a0), a1.dv] (.d (.b r)) := by
  unfold slices_ContainsFunc_int_int at h
  refine Fn.of (rs := [.tmp 4]) (nt := 9) Tryz.func175 rfl rfl rfl (by simp) rfl ?_; refine .seq ?_; refine .region ?_; refine asd ?_; refine rn ?_; refine .gh (Gh.keep [0, 1, 4] rfl) ?_; refine .seq ?_; refine .region ?_; refine vk (vmvd) ?_; refine vk (vmvd) ?_
  obtain ⟨x1, hx1, h⟩ := bnd h
  refine vk (vcl0 (slices_IndexFunc_int_int_ok oa1 hx1) Tryz.call225) ?_; refine vk (vbi) ?_; refine asd ?_; refine rn ?_; refine .gh (Gh.keep [4] rfl) ?_; refine .ret ?_
  cases h
  exact ⟨rfl, rfl⟩

def slices_Index_int_int_l1 (a0 : (List Int)) (a1 : Int) (K0 : Int → Option (Int)) : Nat → Int → Int → Option (Int)
  | 0, _, _ => none
  | k + 1, s2, s3 => (if s3 < ((List.length a0 : Nat) : Int) then ((rd? a0 s3).bind fun x4 => (if a1 = x4 then (some (s3)) else (slices_Index_int_int_l1 a0 a1 K0 k s2 (w64 (s3 + 1))))) else (K0 s2))
def slices_Index_int_int (a0 : (List Int)) (a1 : Int) : Option (Int) := (jn (fun (z1 : Int) => (some ((-1)))) fun K0 => (slices_Index_int_int_l1 a0 a1 K0 FUEL 0 0))
theorem slices_Index_int_int_ok {a0 : (List Int)} {a1 : Int} {r : Int} (h : slices_Index_int_int a0 a1 = some r) :
    Fn Tryz.prog 226 [.sl (Is a0), .i .i64 a1] (.d (.i .i64 r)) := by
  unfold slices_Index_int_int at h
  refine Fn.of (rs := [.tmp 4]) (nt := 19) Tryz.func226 rfl rfl rfl (by simp) rfl ?_; refine .seq ?_; refine .region ?_; refine asd ?_; refine rn ?_; refine .gh (Gh.keep [0, 1, 4] rfl) ?_; refine .seq ?_; refine .seq ?_; refine .region ?_; refine vk (vmvd) ?_; refine vk (vlnE (Is_length _) (Is_sz _) gu_Is) ?_; refine vk (vmvd) ?_; refine rn ?_; refine .gh (Gh.keep [0, 1, 4, 7, 8] rfl) ?_
  obtain ⟨K0, hK0, h⟩ := jn_out h
  refine AW.mr (σ := Int) (fun p => K0 p = some r) (fun p => [(4, .d (.i .i64 p))]) (fun p => []) ?_ ?_
  · skip
    refine .block ?_
    refine .loop (.gh (Gh.keep [0, 1, 4, 7, 8] rfl) ?_)
    refine AL.ind (σ := Nat × Int × Int) (m := fun p => p.1) (e := fun p => [(0, .d (.sl (Is a0))), (1, .d (.i .i64 a1)), (4, .d (.i .i64 p.2.1)), (7, .d (.i .i64 ((List.length a0 : Nat) : Int))), (8, .d (.i .i64 p.2.2))]) (h := fun p => []) (I := fun p => slices_Index_int_int_l1 a0 a1 K0 p.1 p.2.1 p.2.2 = some r) ?_ (FUEL, 0, 0) h
    rintro ⟨k, s2, s3⟩ h ih
    dsimp only at h ih ⊢
    rcases k with _ | k
    · rw [slices_Index_int_int_l1] at h; cases h
    rw [slices_Index_int_int_l1] at h
    refine .seq ?_; refine .region ?_; refine vk (vbi) ?_; refine rn ?_; refine .gh (Gh.keep [0, 1, 4, 7, 8, 9] rfl) ?_; refine .seq ?_
    by_cases hc : s3 < ((List.length a0 : Nat) : Int)
    · replace h := ite_t hc h
      refine cnt (decide_eq_true hc) ?_; refine .skip ?_
      show AW _ _ _ _ _ _
      refine .seq ?_; refine .block ?_; refine .seq ?_; refine .region ?_; refine vk (vmvd) ?_; refine asd ?_; refine rn ?_; refine .gh (Gh.keep [0, 1, 4, 5, 7, 8] rfl) ?_; refine .seq ?_; refine .region ?_; refine vk (vmvd) ?_; refine vk (vmvd) ?_; refine vk (vmvd) ?_
      obtain ⟨x4, hx4, h⟩ := bnd h
      obtain ⟨nx4, hnx4, hxx4⟩ := rd_some hx4
      refine vk (vix nx4 hnx4 (Is_at hxx4) rfl gs_Is) ?_; refine vk (vldp ga_int) ?_; refine vk (vbi) ?_; refine rn ?_; refine .gh (Gh.keep [0, 1, 4, 5, 7, 8, 16] rfl) ?_
      by_cases hc : a1 = x4
      · replace h := ite_t hc h
        refine cnt (decide_eq_true hc) ?_; refine .seq ?_; refine .region ?_; refine vk (vmvd) ?_; refine asd ?_; refine rn ?_; refine .gh (Gh.keep [0, 1, 4, 7, 8] rfl) ?_; refine .ret ?_
        cases h
        exact ⟨rfl, rfl⟩
      replace h := ite_f hc h
      refine cnf (decide_eq_false hc) ?_; refine .skip ?_
      show AW _ _ _ _ _ _
      refine .region ?_; refine vk (vbi) ?_; refine vk (vmvd) ?_; refine .nil ?_; refine AL.gh (Gh.keep [0, 1, 4, 7, 8] rfl) ?_
      exact ih (k, s2, (w64 (s3 + 1))) h (Nat.lt_succ_self _)
    replace h := ite_f hc h
    refine cnf (decide_eq_false hc) ?_; refine .gh (Gh.keep [4] rfl) ?_; refine .exit ?_
    exact jr (s2) h
  rintro z1 h
  try dsimp only at h ⊢
  subst hK0
  show AW _ _ _ _ _ _
  refine .seq ?_; refine .region ?_; refine asd ?_; refine rn ?_; refine .gh (Gh.keep [4] rfl) ?_; refine .ret ?_
  cases h
  exact ⟨rfl, rfl⟩

def slices_Contains_int_int (a0 : (List Int)) (a1 : Int) : Option (Bool) := ((slices_Index_int_int a0 a1).bind fun x1 => (some ((decide (0 ≤ x1)))))
theorem slices_Contains_int_int_ok {a0 : (List Int)} {a1 : Int} {r : Bool} (h : slices_Contains_int_int a0 a1 = some r) :
    Fn Tryz.prog 178 [.sl (Is a0), .i .i64 a1] (.d (.b r)) := by
  unfold slices_Contains_int_int at h
  refine Fn.of (rs := [.tmp 4]) (nt := 9) Tryz.func178 rfl rfl rfl (by simp) rfl ?_; refine .seq ?_; refine .region ?_; refine asd ?_; refine rn ?_; refine .gh (Gh.keep [0, 1, 4] rfl) ?_; refine .seq ?_; refine .region ?_; refine vk (vmvd) ?_; refine vk (vmvd) ?_
  obtain ⟨x1, hx1, h⟩ := bnd h
  refine vk (vcl0 (slices_Index_int_int_ok hx1) Tryz.call226) ?_; refine vk (vbi) ?_; refine asd ?_; refine rn ?_; refine .gh (Gh.keep [4] rfl) ?_; refine .ret ?_
  cases h
  exact ⟨rfl, rfl⟩

def array_Size_1 (a0 : Int) : Option (Bool) := (some ((decide (a0 < 0))))
theorem array_Size_1_ok {a0 : Int} {r : Bool} (h : array_Size_1 a0 = some r) :
    Fn Tryz.prog 176 [.i .i64 a0] (.d (.b r)) := by
  unfold array_Size_1 at h
  refine Fn.of (rs := [.tmp 2]) (nt := 5) Tryz.func176 rfl rfl rfl (by simp) rfl ?_; refine .seq ?_; refine .region ?_; refine asd ?_; refine rn ?_; refine .gh (Gh.keep [0, 2] rfl) ?_; refine .seq ?_; refine .region ?_; refine vk (vmvd) ?_; refine vk (vbi) ?_; refine asd ?_; refine rn ?_; refine .gh (Gh.keep [2] rfl) ?_; refine .ret ?_
  cases h
  exact ⟨rfl, rfl⟩

def array_Size_2 (a0 : Int) : Option (Bool) := (some ((decide (4096 < a0))))
theorem array_Size_2_ok {a0 : Int} {r : Bool} (h : array_Size_2 a0 = some r) :
    Fn Tryz.prog 177 [.i .i64 a0] (.d (.b r)) := by
  unfold array_Size_2 at h
  refine Fn.of (rs := [.tmp 2]) (nt := 5) Tryz.func177 rfl rfl rfl (by simp) rfl ?_; refine .seq ?_; refine .region ?_; refine asd ?_; refine rn ?_; refine .gh (Gh.keep [0, 2] rfl) ?_; refine .seq ?_; refine .region ?_; refine vk (vmvd) ?_; refine vk (vbi) ?_; refine asd ?_; refine rn ?_; refine .gh (Gh.keep [2] rfl) ?_; refine .ret ?_
  cases h
  exact ⟨rfl, rfl⟩

def array_Size_l1 (a0 : (List Int)) (K0 : Int → Int → Int → Option (Int × Int)) : Nat → Int → Int → Int → Int → Option (Int × Int)
  | 0, _, _, _, _ => none
  | k + 1, s7, s8, s9, s10 => (if s10 < ((List.length a0 : Nat) : Int) then ((rd? a0 s10).bind fun x11 => ((grd? (s9 ≠ 0)).bind fun x12 => (if (w64 (Int.tdiv 4096 s9)) < x11 then (some (0, 8)) else (array_Size_l1 a0 K0 k s7 s8 (w64 (s9 * x11)) (w64 (s10 + 1)))))) else (K0 s7 s8 s9))
def array_Size (a0 : (List Int)) : Option (Int × Int) := (if 8 < ((List.length a0 : Nat) : Int) then (some (0, 4)) else ((slices_ContainsFunc_int_int a0 (⟨.fn 176 [] [], fun x => array_Size_1 x⟩ : FT_int__bool)).bind fun x1 => (if x1 = true then (some (0, 3)) else ((slices_ContainsFunc_int_int a0 (⟨.fn 177 [] [], fun x => array_Size_2 x⟩ : FT_int__bool)).bind fun x2 => (if x2 = true then (some (0, 8)) else ((slices_Contains_int_int a0 0).bind fun x3 => (if x3 = true then (some (0, 0)) else (jn (fun (z4 : Int) (z5 : Int) (z6 : Int) => (some (z6, 0))) fun K0 => (array_Size_l1 a0 K0 FUEL 0 0 1 0)))))))))
theorem array_Size_ok {a0 : (List Int)} {r : Int × Int} (h : array_Size a0 = some r) :
    Fn Tryz.prog 98 [.sl (Is a0)] (.tup [.d (.i .i64 r.1), .d (.i .i64 r.2)]) := by
  unfold array_Size at h
  refine Fn.of (rs := [.tmp 2, .tmp 3]) (nt := 35) Tryz.func98 rfl rfl rfl (by simp) rfl ?_; refine .seq ?_; refine .region ?_; refine asd ?_; refine asd ?_; refine rn ?_; refine .gh (Gh.keep [0, 2, 3] rfl) ?_; refine .seq ?_; refine .block ?_; refine .seq ?_; refine .region ?_; refine vk (vmvd) ?_; refine vk (vlnE (Is_length _) (Is_sz _) gu_Is) ?_; refine vk (vbi) ?_; refine asd ?_; refine rn ?_; refine .gh (Gh.keep [0, 2, 3, 7] rfl) ?_
  by_cases hc : 8 < ((List.length a0 : Nat) : Int)
  · replace h := ite_t hc h
    refine cnt (decide_eq_true hc) ?_; refine .seq ?_; refine .region ?_; refine asd ?_; refine asd ?_; refine rn ?_; refine .gh (Gh.keep [0, 2, 3] rfl) ?_; refine .ret ?_
    cases h
    exact ⟨by decide, rfl, rfl, rfl⟩
  replace h := ite_f hc h
  refine cnf (decide_eq_false hc) ?_; refine .seq ?_; refine .region ?_; refine vk (vmvd) ?_
  obtain ⟨x1, hx1, h⟩ := bnd h
  refine vk (vcl0 (slices_ContainsFunc_int_int_ok (FWOK Tryz.call176 (fun _ _ h => array_Size_1_ok h)) hx1) Tryz.call175) ?_; refine asd ?_; refine rn ?_; refine .gh (Gh.keep [0, 2, 3, 11] rfl) ?_
  by_cases hc : x1 = true
  · replace h := ite_t hc h
    refine cnt hc ?_; refine .seq ?_; refine .region ?_; refine asd ?_; refine asd ?_; refine rn ?_; refine .gh (Gh.keep [0, 2, 3] rfl) ?_; refine .ret ?_
    cases h
    exact ⟨by decide, rfl, rfl, rfl⟩
  replace h := ite_f hc h
  refine cnf (bf hc) ?_; refine .seq ?_; refine .region ?_; refine vk (vmvd) ?_
  obtain ⟨x2, hx2, h⟩ := bnd h
  refine vk (vcl0 (slices_ContainsFunc_int_int_ok (FWOK Tryz.call177 (fun _ _ h => array_Size_2_ok h)) hx2) Tryz.call175) ?_; refine asd ?_; refine rn ?_; refine .gh (Gh.keep [0, 2, 3, 14] rfl) ?_
  by_cases hc : x2 = true
  · replace h := ite_t hc h
    refine cnt hc ?_; refine .seq ?_; refine .region ?_; refine asd ?_; refine asd ?_; refine rn ?_; refine .gh (Gh.keep [0, 2, 3] rfl) ?_; refine .ret ?_
    cases h
    exact ⟨by decide, rfl, rfl, rfl⟩
  replace h := ite_f hc h
  refine cnf (bf hc) ?_; refine .seq ?_; refine .region ?_; refine vk (vmvd) ?_
  obtain ⟨x3, hx3, h⟩ := bnd h
  refine vk (vcl0 (slices_Contains_int_int_ok hx3) Tryz.call178) ?_; refine asd ?_; refine rn ?_; refine .gh (Gh.keep [0, 2, 3, 17] rfl) ?_
  by_cases hc : x3 = true
  · replace h := ite_t hc h
    refine cnt hc ?_; refine .seq ?_; refine .region ?_; refine asd ?_; refine asd ?_; refine rn ?_; refine .gh (Gh.keep [0, 2, 3] rfl) ?_; refine .ret ?_
    cases h
    exact ⟨by decide, rfl, rfl, rfl⟩
  replace h := ite_f hc h
  refine cnf (bf hc) ?_; refine .skip ?_
  show AW _ _ _ _ _ _
  refine .seq ?_; refine .region ?_; refine asd ?_; refine rn ?_; refine .gh (Gh.keep [0, 2, 3, 4] rfl) ?_; refine .seq ?_; refine .seq ?_; refine .region ?_; refine vk (vmvd) ?_; refine vk (vlnE (Is_length _) (Is_sz _) gu_Is) ?_; refine vk (vmvd) ?_; refine rn ?_; refine .gh (Gh.keep [2, 3, 4, 20, 21, 22] rfl) ?_
  obtain ⟨K0, hK0, h⟩ := jn_out h
  refine AW.mr (σ := Int × Int × Int) (fun p => K0 p.1 p.2.1 p.2.2 = some r) (fun p => [(2, .d (.i .i64 p.1)), (3, .d (.i .i64 p.2.1)), (4, .d (.i .i64 p.2.2))]) (fun p => []) ?_ ?_
  · skip
    refine .block ?_
    refine .loop (.gh (Gh.keep [2, 3, 4, 20, 21, 22] rfl) ?_)
    refine AL.ind (σ := Nat × Int × Int × Int × Int) (m := fun p => p.1) (e := fun p => [(2, .d (.i .i64 p.2.1)), (3, .d (.i .i64 p.2.2.1)), (4, .d (.i .i64 p.2.2.2.1)), (20, .d (.sl (Is a0))), (21, .d (.i .i64 ((List.length a0 : Nat) : Int))), (22, .d (.i .i64 p.2.2.2.2))]) (h := fun p => []) (I := fun p => array_Size_l1 a0 K0 p.1 p.2.1 p.2.2.1 p.2.2.2.1 p.2.2.2.2 = some r) ?_ (FUEL, 0, 0, 1, 0) h
    rintro ⟨k, s7, s8, s9, s10⟩ h ih
    dsimp only at h ih ⊢
    rcases k with _ | k
    · rw [array_Size_l1] at h; cases h
    rw [array_Size_l1] at h
    refine .seq ?_; refine .region ?_; refine vk (vbi) ?_; refine rn ?_; refine .gh (Gh.keep [2, 3, 4, 20, 21, 22, 23] rfl) ?_; refine .seq ?_
    by_cases hc : s10 < ((List.length a0 : Nat) : Int)
    · replace h := ite_t hc h
      refine cnt (decide_eq_true hc) ?_; refine .skip ?_
      show AW _ _ _ _ _ _
      refine .seq ?_; refine .block ?_; refine .seq ?_; refine .region ?_
      obtain ⟨x11, hx11, h⟩ := bnd h
      obtain ⟨nx11, hnx11, hxx11⟩ := rd_some hx11
      refine vk (vix nx11 hnx11 (Is_at hxx11) rfl gs_Is) ?_; refine vk (vldp ga_int) ?_; refine asd ?_; refine rn ?_; refine .gh (Gh.keep [2, 3, 4, 6, 20, 21, 22] rfl) ?_; refine .seq ?_; refine .seq ?_; refine .region ?_; refine vk (vmvd) ?_; refine vk (vmvd) ?_
      obtain ⟨x12, hx12, h⟩ := bnd h
      refine vk (vbic (grd_ok hx12)) ?_; refine vk (vbi) ?_; refine rn ?_; refine .gh (Gh.keep [2, 3, 4, 6, 20, 21, 22, 29] rfl) ?_
      by_cases hc : (w64 (Int.tdiv 4096 s9)) < x11
      · replace h := ite_t hc h
        refine cnt (decide_eq_true hc) ?_; refine .seq ?_; refine .region ?_; refine asd ?_; refine asd ?_; refine rn ?_; refine .gh (Gh.keep [2, 3, 4, 6, 20, 21, 22] rfl) ?_; refine .ret ?_
        cases h
        exact ⟨by decide, rfl, rfl, rfl⟩
      replace h := ite_f hc h
      refine cnf (decide_eq_false hc) ?_; refine .skip ?_
      show AW _ _ _ _ _ _
      refine .region ?_; refine vk (vmvd) ?_; refine vk (vmvd) ?_; refine vk (vbi) ?_; refine asd ?_; refine .nil ?_
      show AW _ _ _ _ _ _
      refine .gh (Gh.keep [2, 3, 4, 20, 21, 22] rfl) ?_; refine .region ?_; refine vk (vbi) ?_; refine vk (vmvd) ?_; refine .nil ?_; refine AL.gh (Gh.keep [2, 3, 4, 20, 21, 22] rfl) ?_
      exact ih (k, s7, s8, (w64 (s9 * x11)), (w64 (s10 + 1))) h (Nat.lt_succ_self _)
    replace h := ite_f hc h
    refine cnf (decide_eq_false hc) ?_; refine .gh (Gh.keep [2, 3, 4] rfl) ?_; refine .exit ?_
    exact jr (s7, s8, s9) h
  rintro ⟨z4, z5, z6⟩ h
  try dsimp only at h ⊢
  subst hK0
  show AW _ _ _ _ _ _
  refine .seq ?_; refine .region ?_; refine vk (vmvd) ?_; refine asd ?_; refine asd ?_; refine rn ?_; refine .gh (Gh.keep [2, 3] rfl) ?_; refine .ret ?_
  cases h
  exact ⟨by decide, rfl, rfl, rfl⟩

def array_isSimple (a0 : Arr) : Option (Bool) := (Option.bind ((if ((List.length a0.shape : Nat) : Int) = 0 then (if ((List.length a0.items : Nat) : Int) = 1 then ((rd? a0.items 0).bind fun x2 => (some (!(decide (x2.kind = 3))))) else (some false)) else (some false)) : Option (Bool)) fun (z1 : Bool) => (some (z1)))
theorem array_isSimple_ok {a0 : Arr} {r : Bool} (h : array_isSimple a0 = some r) :
    Fn Tryz.prog 172 [.ag [.sl (Is a0.shape), .sl (Its a0.items)]] (.d (.b r)) := by
  unfold array_isSimple at h
  refine Fn.of (rs := [.tmp 2]) (nt := 21) Tryz.func172 rfl rfl rfl (by simp) rfl ?_; refine .seq ?_; refine .region ?_; refine vk (vbx) ?_; refine asd ?_; refine rn ?_; refine .gh (Gh.keep [1, 2] rfl) ?_; refine .seq ?_
  obtain ⟨z1, hz, h⟩ := bnd h
  refine AW.mr (σ := Unit) (fun _ => True) (fun _ => [(2, .d (.b z1))]) (fun _ => []) ?_ ?_
  · skip
    refine .region ?_; refine vk (vfa gF_Arr_0) ?_; refine vk (vldp ga_Is) ?_; refine vk (vlnE (Is_length _) (Is_sz _) gu_Is) ?_; refine vk (vbi) ?_
    by_cases hc : ((List.length a0.shape : Nat) : Int) = 0
    · replace hz := ite_t hc hz
      have hb0 : (decide (((List.length a0.shape : Nat) : Int) = 0)) = true := (decide_eq_true hc)
      refine vk (VOK.lit (vmvd) hb0) ?_; refine vk (vfa gF_Arr_1) ?_; refine vk (vldp ga_Its) ?_; refine vk (vlnE (Its_length _) (Its_sz _) gu_Its) ?_; refine vk (vbi) ?_; refine vk (vpkd) ?_
      by_cases hc : ((List.length a0.items : Nat) : Int) = 1
      · replace hz := ite_t hc hz
        have hb1 : (decide (((List.length a0.items : Nat) : Int) = 1)) = true := (decide_eq_true hc)
        refine vk (VOK.lit (vmvd) hb1) ?_; refine vk (vfa gF_Arr_1) ?_; refine vk (vldp ga_Its) ?_
        obtain ⟨x2, hx2, hz⟩ := bnd hz
        obtain ⟨nx2, hnx2, hxx2⟩ := rd_some hx2
        refine vk (vix nx2 hnx2 (Its_at hxx2) rfl gs_Its) ?_; refine vk (vfa gF_Itm_0) ?_; refine vk (vldp ga_ItemKind) ?_; refine vk (vbi) ?_; refine vk (vpkd) ?_; refine asd ?_; refine RL.gh (Gh.keep [2] rfl) ?_; refine .nil ?_
        cases hz
        exact jr () trivial
      replace hz := ite_f hc hz
      have hb1 : (decide (((List.length a0.items : Nat) : Int) = 1)) = false := (decide_eq_false hc)
      refine vk (VOK.lit (vmvd) hb1) ?_; refine gf ?_; refine gf ?_; refine gf ?_; refine gf ?_; refine gf ?_; refine gf ?_; refine vk (vpkd) ?_; refine asd ?_; refine RL.gh (Gh.keep [2] rfl) ?_; refine .nil ?_
      cases hz
      exact jr () trivial
    replace hz := ite_f hc hz
    have hb0 : (decide (((List.length a0.shape : Nat) : Int) = 0)) = false := (decide_eq_false hc)
    refine vk (VOK.lit (vmvd) hb0) ?_; refine gf ?_; refine gf ?_; refine gf ?_; refine gf ?_; refine vk (vpkd) ?_; refine vk (vmvd) ?_; refine gf ?_; refine gf ?_; refine gf ?_; refine gf ?_; refine gf ?_; refine gf ?_; refine vk (vpkd) ?_; refine asd ?_; refine RL.gh (Gh.keep [2] rfl) ?_; refine .nil ?_
    cases hz
    exact jr () trivial
  rintro _ _
  refine .ret ?_
  cases h
  exact ⟨rfl, rfl⟩

def array_isChar (a0 : Int) : Option (Bool) := (some (((decide (0 ≤ a0)) && ((decide (a0 ≤ 1114111)) && ((decide (a0 < 55296)) || (decide (57343 < a0)))))))
theorem array_isChar_ok {a0 : Int} {r : Bool} (h : array_isChar a0 = some r) :
    Fn Tryz.prog 231 [.i .i32 a0] (.d (.b r)) := by
  unfold array_isChar at h
  refine Fn.of (rs := [.tmp 2]) (nt := 17) Tryz.func231 rfl rfl rfl (by simp) rfl ?_; refine .seq ?_; refine .region ?_; refine asd ?_; refine rn ?_; refine .gh (Gh.keep [0, 2] rfl) ?_; refine .seq ?_; refine AW.mr (σ := Unit) (fun _ => True) (fun _ => [(2, .d (.b ((decide (0 ≤ a0)) && ((decide (a0 ≤ 1114111)) && ((decide (a0 < 55296)) || (decide (57343 < a0)))))))]) (fun _ => []) ?_ ?_
  · skip
    refine .region ?_; refine vk (vmvd) ?_; refine vk (vbi) ?_
    by_cases hc : 0 ≤ a0
    · have hb0 : (decide (0 ≤ a0)) = true := (decide_eq_true hc)
      refine vk (VOK.lit (vmvd) hb0) ?_; refine vk (vmvd) ?_; refine vk (vbi) ?_; refine vk (vpkd) ?_
      by_cases hc : a0 ≤ 1114111
      · have hb1 : (decide (a0 ≤ 1114111)) = true := (decide_eq_true hc)
        refine vk (VOK.lit (vmvd) hb1) ?_; refine vk (vmvd) ?_; refine vk (vbi) ?_
        by_cases hc : a0 < 55296
        · have hb2 : (decide (a0 < 55296)) = true := (decide_eq_true hc)
          refine vk (VOK.lit (vmvd) hb2) ?_; refine gf ?_; refine gf ?_; refine vk (vpkd) ?_; refine vk (vpkd) ?_; refine asd ?_; refine RL.gh (Gh.keep [2] rfl) ?_; refine .nil ?_
          exact jr () trivial (by simp only [hb0, hb1, hb2]; rfl)
        have hb2 : (decide (a0 < 55296)) = false := (decide_eq_false hc)
        refine vk (VOK.lit (vmvd) hb2) ?_; refine vk (vmvd) ?_; refine vk (vbi) ?_; refine vk (vpkd) ?_; refine vk (vpkd) ?_; refine asd ?_; refine RL.gh (Gh.keep [2] rfl) ?_; refine .nil ?_
        exact jr () trivial (by simp only [hb0, hb1, hb2]; rfl)
      have hb1 : (decide (a0 ≤ 1114111)) = false := (decide_eq_false hc)
      refine vk (VOK.lit (vmvd) hb1) ?_; refine gf ?_; refine gf ?_; refine gfu ?_; refine gf ?_; refine gf ?_; refine gf ?_; refine vk (vpkd) ?_; refine asd ?_; refine RL.gh (Gh.keep [2] rfl) ?_; refine .nil ?_
      exact jr () trivial (by simp only [hb0, hb1]; rfl)
    have hb0 : (decide (0 ≤ a0)) = false := (decide_eq_false hc)
    refine vk (VOK.lit (vmvd) hb0) ?_; refine gf ?_; refine gf ?_; refine vk (vpkd) ?_; refine vk (vmvd) ?_; refine gf ?_; refine gf ?_; refine gfu ?_; refine gf ?_; refine gf ?_; refine gf ?_; refine vk (vpkd) ?_; refine asd ?_; refine RL.gh (Gh.keep [2] rfl) ?_; refine .nil ?_
    exact jr () trivial (by simp only [hb0]; rfl)
  rintro _ _
  refine .ret ?_
  cases h
  exact ⟨rfl, rfl⟩

theorem gz0_Is : 0 < szOf Tryz.prog 3 := by rw [gz_int]; decide
def sClone_int (a : (List Int)) : Option ((List Int)) := ap? 17592186044416 [] a
theorem sClone_int_ok {a r : (List Int)} (h : sClone_int a = some r) : Fn Tryz.prog 182 [.sl (Is a)] (.own 3 (Is r)) := by
  unfold sClone_int at h
  refine Fn.of (rs := [.tmp 2]) (nt := 8) Tryz.func182 rfl rfl rfl (by simp) rfl ?_; refine .seq ?_; refine .region ?_; refine asn ?_; refine rn ?_; refine .seq ?_; refine .seq ?_; refine .region ?_; refine mvd ?_
  refine nq (fun b hb => ?_) (Is_sz _) gu_Is
  refine rn ?_
  refine cnd (fun hc => ?_) (fun hc => ?_)
  · simp only [if_true] at hc
    have h0 : Is a = [] := by
      apply Classical.byContradiction
      intro h; rw [hb h] at hc; cases hc
    have h1 : r = [] := by
      have := (ap_some h).2
      rw [this, List.nil_append]
      exact List.length_eq_zero_iff.1 (by rw [← Is_length a, h0]; rfl)
    subst h1
    refine .seq ?_; refine .region ?_; refine asn ?_; refine rn ?_; refine .gh (Gh.nlOwn (t := 2) 3 gz0_Is rfl) ?_; refine .ret ?_
    exact ⟨rfl, rfl⟩
  · refine .skip ?_
    show AW _ _ _ _ _ _
    refine .seq ?_; refine .region ?_; refine vk (vbslE (ds' := Is []) rfl (Is_flat []) ge_Is) ?_; refine mvd ?_
    refine apo' Is_app h gB_Is ?_ Is_sz1 Is_length ge_Is
    refine aso ?_; refine rn ?_; refine .ret ?_
    exact ⟨rfl, rfl⟩

def array_copiedRat (a0 : RT) : Option (RT) := ((sCloneL a0.2.1).bind fun x1 => ((sCloneL a0.2.2).bind fun x2 => (some ((a0.1, x1, x2)))))
theorem array_copiedRat_ok {a0 : RT} {r : RT} (h : array_copiedRat a0 = some r) :
    Fn Tryz.prog 157 [.ag [.b a0.1, .sl (L a0.2.1), .sl (L a0.2.2)]] (.d (.ag [.b r.1, .sl (L r.2.1), .sl (L r.2.2)])) := by
  unfold array_copiedRat at h
  refine Fn.ofC (rs := [.cell 2 32]) (nt := 12) Tryz.func157 rfl rfl rfl (by simp) rfl ?_; refine .seq ?_; refine .region ?_; refine vk (vbx) ?_; refine vk (van (zero_of gI_R) gZ_R) ?_; refine rn ?_; refine .gh (Gh.keep [1, 2] rfl) ?_; refine .seq ?_; refine .drawn 9 mixed (by kernel_rfl) ?_; refine dv (vfa gF_R_0) ?_; refine dv (vldp ga_bool) ?_; refine dv (vfa gF_R_1) ?_; refine dv (vldp ga_L) ?_
  obtain ⟨x1, hx1, h⟩ := bnd h
  refine dv ((vcl0 (sCloneL_ok hx1) Tryz.call215).deep) ?_; refine dv (vfa gF_R_2) ?_; refine dv (vldp ga_L) ?_
  obtain ⟨x2, hx2, h⟩ := bnd h
  refine dv ((vcl0 (sCloneL_ok hx2) Tryz.call215).deep) ?_; refine dv (vbd gP_R gI_R gZ_R) ?_; refine dz ?_
  refine stn ?_ gS_R (by decide)
  refine rn ?_; refine .gh (Gh.keep [2] rfl) ?_; refine .ret ?_
  cases h
  exact ⟨_, ⟨.inr rfl, gA_R, gS_R, (by decide : (0 : Nat) < 3)⟩, rfl⟩

def array_number (a0 : RT) : Option (Itm) := ((array_copiedRat a0).bind fun x1 => (some ((Itm.mk 1 x1 0 []))))
theorem array_number_ok {a0 : RT} {r : Itm} (h : array_number a0 = some r) :
    Fn Tryz.prog 71 [.ag [.b a0.1, .sl (L a0.2.1), .sl (L a0.2.2)]] (.d (.ag [.i .u8 r.kind, .b r.num.1, .sl (L r.num.2.1), .sl (L r.num.2.2), .i .i32 r.char, .sl (Ars r.box)])) := by
  unfold array_number at h
  refine Fn.ofC (rs := [.cell 2 83]) (nt := 6) Tryz.func71 rfl rfl rfl (by simp) rfl ?_; refine .seq ?_; refine .region ?_; refine vk (vbx) ?_; refine vk (van (zero_of gI_Itm) gZ_Itm) ?_; refine rn ?_; refine .gh (Gh.keep [1, 2] rfl) ?_; refine .seq ?_; refine .region ?_; refine vk (vlda gA_R gS_R) ?_
  obtain ⟨x1, hx1, h⟩ := bnd h
  refine vk (vcl0 (array_copiedRat_ok hx1) Tryz.call157) ?_; refine vk (vbd gP_Itm gI_Itm gZ_Itm) ?_
  refine stn ?_ gS_Itm (by decide)
  refine rn ?_; refine .gh (Gh.keep [2] rfl) ?_; refine .ret ?_
  cases h
  exact ⟨_, ⟨.inr rfl, gA_Itm, gS_Itm, (by decide : (0 : Nat) < 6)⟩, rfl⟩

def array_char (a0 : Int) : Option (Itm) := (some ((Itm.mk 2 (false, [], []) a0 [])))
theorem array_char_ok {a0 : Int} {r : Itm} (h : array_char a0 = some r) :
    Fn Tryz.prog 228 [.i .i32 a0] (.d (.ag [.i .u8 r.kind, .b r.num.1, .sl (L r.num.2.1), .sl (L r.num.2.2), .i .i32 r.char, .sl (Ars r.box)])) := by
  unfold array_char at h
  refine Fn.ofC (rs := [.cell 2 83]) (nt := 5) Tryz.func228 rfl rfl rfl (by simp) rfl ?_; refine .seq ?_; refine .region ?_; refine vk (van (zero_of gI_Itm) gZ_Itm) ?_; refine rn ?_; refine .gh (Gh.keep [0, 2] rfl) ?_; refine .seq ?_; refine .region ?_; refine vk (vmvd) ?_; refine vk (vbd gP_Itm gI_Itm gZ_Itm) ?_
  refine stn ?_ gS_Itm (by decide)
  refine rn ?_; refine .gh (Gh.keep [2] rfl) ?_; refine .ret ?_
  cases h
  exact ⟨_, ⟨.inr rfl, gA_Itm, gS_Itm, (by decide : (0 : Nat) < 6)⟩, rfl⟩

def array_scalar (a0 : Itm) : Option (Arr) := (some ((Arr.mk [] [a0])))
theorem array_scalar_ok {a0 : Itm} {r : Arr} (h : array_scalar a0 = some r) :
    Fn Tryz.prog 70 [.ag [.i .u8 a0.kind, .b a0.num.1, .sl (L a0.num.2.1), .sl (L a0.num.2.2), .i .i32 a0.char, .sl (Ars a0.box)]] (.d (.ag [.sl (Is r.shape), .sl (Its r.items)])) := by
  unfold array_scalar at h
  refine Fn.ofC (rs := [.cell 2 25]) (nt := 6) Tryz.func70 rfl rfl rfl (by simp) rfl ?_; refine .seq ?_; refine .region ?_; refine vk (vbx) ?_; refine vk (van (zero_of gI_Arr) gZ_Arr) ?_; refine rn ?_; refine .gh (Gh.keep [1, 2] rfl) ?_; refine .seq ?_; refine .region ?_; refine vk (vlda gA_Itm gS_Itm) ?_; refine vk ((vbslE (Its_bs1 a0) (Its_flat [a0]) ge_Its).deep) ?_; refine vk (vbd gP_Arr gI_Arr gZ_Arr) ?_
  refine stn ?_ gS_Arr (by decide)
  refine rn ?_; refine .gh (Gh.keep [2] rfl) ?_; refine .ret ?_
  cases h
  exact ⟨_, ⟨.inr rfl, gA_Arr, gS_Arr, (by decide : (0 : Nat) < 2)⟩, rfl⟩

def array_Int (a0 : Int) : Option (Arr) := ((ratOfInt a0).bind fun x1 => ((array_number x1).bind fun x2 => ((array_scalar x2).bind fun x3 => (some (x3)))))
theorem array_Int_ok {a0 : Int} {r : Arr} (h : array_Int a0 = some r) :
    Fn Tryz.prog 26 [.i .i64 a0] (.d (.ag [.sl (Is r.shape), .sl (Its r.items)])) := by
  unfold array_Int at h
  refine Fn.ofC (rs := [.cell 2 25]) (nt := 7) Tryz.func26 rfl rfl rfl (by simp) rfl ?_; refine .seq ?_; refine .region ?_; refine vk (van (zero_of gI_Arr) gZ_Arr) ?_; refine rn ?_; refine .gh (Gh.keep [0, 2] rfl) ?_; refine .seq ?_; refine .region ?_; refine vk (vmvd) ?_
  obtain ⟨x1, hx1, h⟩ := bnd h
  refine vk (vcl0 (ratOfInt_ok hx1) Tryz.call72) ?_
  obtain ⟨x2, hx2, h⟩ := bnd h
  refine vk (vcl0 (array_number_ok hx2) Tryz.call71) ?_
  obtain ⟨x3, hx3, h⟩ := bnd h
  refine vk (vcl0 (array_scalar_ok hx3) Tryz.call70) ?_
  refine stn ?_ gS_Arr (by decide)
  refine rn ?_; refine .gh (Gh.keep [2] rfl) ?_; refine .ret ?_
  cases h
  exact ⟨_, ⟨.inr rfl, gA_Arr, gS_Arr, (by decide : (0 : Nat) < 2)⟩, rfl⟩

def array_copied_l1 (a0 : Arr) (a1 : FT_Itm__Itm) (K0 : (List Int) → (List Itm) → Option (Arr)) : Nat → Int → (List Int) → (List Itm) → Option (Arr)
  | 0, _, _, _ => none
  | k + 1, s4, s5, s6 => (if s4 < ((List.length a0.items : Nat) : Int) then ((rd? a0.items s4).bind fun x7 => ((a1.g x7).bind fun x8 => ((ap? 1466015503701 s6 [x8]).bind fun x9 => (array_copied_l1 a0 a1 K0 k (w64 (s4 + 1)) s5 x9)))) else (K0 s5 s6))
def array_copied (a0 : Arr) (a1 : FT_Itm__Itm) : Option (Arr) := ((sClone_int a0.shape).bind fun x1 => (jn (fun (z2 : (List Int)) (z3 : (List Itm)) => (some ((Arr.mk z2 z3)))) fun K0 => (array_copied_l1 a0 a1 K0 FUEL 0 x1 [])))
theorem array_copied_ok {a0 : Arr} {a1 : FT_Itm__Itm} (oa1 : FO_Itm__Itm a1) {r : Arr} (h : array_copied a0 a1 = some r) :
    Fn Tryz.prog 174 [.ag [.sl (Is a0.shape), .sl (Its a0.items)], a1.dv] (.d (.ag [.sl (Is r.shape), .sl (Its r.items)])) := by
  unfold array_copied at h
  refine Fn.ofC (rs := [.cell 4 25]) (nt := 29) Tryz.func174 rfl rfl rfl (by simp) rfl ?_; refine .seq ?_; refine .region ?_; refine vk (vbx) ?_; refine vk (van (zero_of gI_Arr) gZ_Arr) ?_; refine rn ?_; refine .gh (Gh.keep [1, 2, 4] rfl) ?_; refine .seq ?_; refine .region ?_; refine vk (vfa gF_Arr_0) ?_; refine vk (vldp ga_Is) ?_
  obtain ⟨x1, hx1, h⟩ := bnd h
  refine vk ((vcl0 (sClone_int_ok hx1) Tryz.call182).deep) ?_; refine vk (vbdA gP_Arr gI_Arr (fun w I μ => gZA_Arr w I μ)) ?_; refine vk (van (zero_of gI_Arr) gZ_Arr) ?_
  refine stnA ?_ gS_Arr (by decide)
  refine rn ?_; refine .gh (Gh.keep [1, 2, 4, 5] rfl) ?_; refine .seq ?_; refine .seq ?_; refine .region ?_; refine vk (vfa gF_Arr_1) ?_; refine vk (vldp ga_Its) ?_; refine vk (vlnE (Its_length _) (Its_sz _) gu_Its) ?_; refine vk (vmvd) ?_; refine rn ?_; refine .gh (Gh.keep [1, 4, 5, 13, 14, 15] rfl) ?_
  obtain ⟨K0, hK0, h⟩ := jn_out h
  refine AW.mr (σ := (List Int) × (List Itm)) (fun p => K0 p.1 p.2 = some r) (fun p => [(4, .nb [.sl (Is []), .sl (Its [])]), (5, .bp 0 0)]) (fun p => [HO.box [.d (.sl (Is p.1)), .own 83 (Its p.2)]]) ?_ ?_
  · skip
    refine .block ?_; refine .gh (Gh.nlOwnC (id := 0) (off := 1) 83 (by rw [gz_Itm]; decide)) ?_
    refine .loop (.gh (Gh.keep [1, 4, 5, 13, 14, 15] rfl) ?_)
    refine AL.ind (σ := Nat × Int × (List Int) × (List Itm)) (m := fun p => p.1) (e := fun p => [(1, .d (a1.dv)), (4, .nb [.sl (Is []), .sl (Its [])]), (5, .bp 0 0), (13, .d (.sl (Its a0.items))), (14, .d (.i .i64 ((List.length a0.items : Nat) : Int))), (15, .d (.i .i64 p.2.1))]) (h := fun p => [HO.box [.d (.sl (Is p.2.2.1)), .own 83 (Its p.2.2.2)]]) (I := fun p => array_copied_l1 a0 a1 K0 p.1 p.2.1 p.2.2.1 p.2.2.2 = some r) ?_ (FUEL, 0, x1, []) h
    rintro ⟨k, s4, s5, s6⟩ h ih
    dsimp only at h ih ⊢
    rcases k with _ | k
    · rw [array_copied_l1] at h; cases h
    rw [array_copied_l1] at h
    refine .seq ?_; refine .region ?_; refine vk (vbi) ?_; refine rn ?_; refine .gh (Gh.keep [1, 4, 5, 13, 14, 15, 16] rfl) ?_; refine .seq ?_
    by_cases hc : s4 < ((List.length a0.items : Nat) : Int)
    · replace h := ite_t hc h
      refine cnt (decide_eq_true hc) ?_; refine .skip ?_
      show AW _ _ _ _ _ _
      refine .seq ?_; refine .block ?_; refine .seq ?_; refine .region ?_
      obtain ⟨x7, hx7, h⟩ := bnd h
      obtain ⟨nx7, hnx7, hxx7⟩ := rd_some hx7
      refine vk (vix nx7 hnx7 (Its_at hxx7) rfl gs_Its) ?_; refine vk (vlda gA_Itm gS_Itm) ?_; refine vk (van (zero_of gI_Itm) gZ_Itm) ?_
      refine stn ?_ gS_Itm (by decide)
      refine rn ?_; refine .gh (Gh.keep [1, 4, 5, 7, 13, 14, 15] rfl) ?_; refine .drawn 6 mixed (by kernel_rfl) ?_; refine dv (vfab gF_Arr_1) ?_; refine dv (vldbo (cs := [.d (.sl (Is s5)), .own 83 (Its s6)]) rfl rfl ga_Its) ?_; refine dv (vmvd) ?_; refine dv (vldn gA_Itm gS_Itm) ?_
      obtain ⟨x8, hx8, h⟩ := bnd h
      refine dv (vclv (oa1 _ _ hx8)) ?_; refine dv ((vbslE (Its_bs1 x8) (Its_flat [x8]) ge_Its).deep) ?_; refine dz ?_
      obtain ⟨x9, hx9, h⟩ := bnd h
      refine apc' Its_app hx9 rfl rfl gB_Its ?_ Its_sz1 Its_length ge_Its
      refine RL.gh (Gh.keep [1, 4, 5, 7, 13, 14, 15, 19, 21, 22, 23, 24, 25] rfl) ?_; refine vk (vfab gF_Arr_1) ?_
      refine stbo (cs := [.d (.sl (Is s5)), .un]) (c := .un) rfl rfl ?_ gz_Its
      refine .nil ?_
      show AW _ _ _ _ _ _
      refine .gh (Gh.keep [1, 4, 5, 13, 14, 15] rfl) ?_; refine .region ?_; refine vk (vbi) ?_; refine vk (vmvd) ?_; refine .nil ?_; refine AL.gh (Gh.keep [1, 4, 5, 13, 14, 15] rfl) ?_
      exact ih (k, (w64 (s4 + 1)), s5, x9) h (Nat.lt_succ_self _)
    replace h := ite_f hc h
    refine cnf (decide_eq_false hc) ?_; refine .gh (Gh.keep [4, 5] rfl) ?_; refine .exit ?_
    exact jr (s5, s6) h
  rintro ⟨z2, z3⟩ h
  try dsimp only at h ⊢
  subst hK0
  show AW _ _ _ _ _ _
  refine .seq ?_; refine .region ?_; refine fz (p := .c 0 1) ?_; refine vk (vldba (cs := [.d (.sl (Is z2)), .d (.sl (Its z3))]) (ds := [.sl (Is z2), .sl (Its z3)]) rfl gA_Arr gS_Arr) ?_
  refine stn ?_ gS_Arr (by decide)
  refine rn ?_; refine .gh (Gh.keep [4] rfl) ?_; refine .ret ?_
  cases h
  exact ⟨_, ⟨.inr rfl, gA_Arr, gS_Arr, (by decide : (0 : Nat) < 2)⟩, rfl⟩

def ar_sameB_l1 (rc_array_same : Itm → Option (Itm)) (a0 : Itm) (K0 : Int → Bool → (List Nat) → (List Nat) → Int → (List Arr) → Option (Itm)) : Nat → Int → Int → Bool → (List Nat) → (List Nat) → Int → (List Arr) → Option (Itm)
  | 0, _, _, _, _, _, _, _ => none
  | k + 1, s8, s9, s10, s11, s12, s13, s14 => (if s8 < ((List.length a0.box : Nat) : Int) then ((rd? a0.box s8).bind fun x15 => ((array_copied x15 (⟨.fn 173 [] [], fun x => rc_array_same x⟩ : FT_Itm__Itm)).bind fun x16 => ((ap? 2932031007402 s14 [x16]).bind fun x17 => (ar_sameB_l1 rc_array_same a0 K0 k (w64 (s8 + 1)) s9 s10 s11 s12 s13 x17)))) else (K0 s9 s10 s11 s12 s13 s14))
def ar_sameB (rc_array_same : Itm → Option (Itm)) (a0 : Itm) : Option (Itm) := ((array_copiedRat a0.num).bind fun x1 => (jn (fun (z2 : Int) (z3 : Bool) (z4 : (List Nat)) (z5 : (List Nat)) (z6 : Int) (z7 : (List Arr)) => (some ((Itm.mk z2 (z3, z4, z5) z6 z7)))) fun K0 => (ar_sameB_l1 rc_array_same a0 K0 FUEL 0 a0.kind x1.1 x1.2.1 x1.2.2 a0.char [])))
theorem ar_sameB_ok {rc_array_same : Itm → Option (Itm)} (orc_array_same : ∀ x0 r, rc_array_same x0 = some r → Fn Tryz.prog 173 [.ag [.i .u8 x0.kind, .b x0.num.1, .sl (L x0.num.2.1), .sl (L x0.num.2.2), .i .i32 x0.char, .sl (Ars x0.box)]] (.d (.ag [.i .u8 r.kind, .b r.num.1, .sl (L r.num.2.1), .sl (L r.num.2.2), .i .i32 r.char, .sl (Ars r.box)]))) {a0 : Itm} {r : Itm} (h : ar_sameB rc_array_same a0 = some r) :
    Fn Tryz.prog 173 [.ag [.i .u8 a0.kind, .b a0.num.1, .sl (L a0.num.2.1), .sl (L a0.num.2.2), .i .i32 a0.char, .sl (Ars a0.box)]] (.d (.ag [.i .u8 r.kind, .b r.num.1, .sl (L r.num.2.1), .sl (L r.num.2.2), .i .i32 r.char, .sl (Ars r.box)])) := by
  unfold ar_sameB at h
  refine Fn.ofC (rs := [.cell 2 83]) (nt := 30) Tryz.func173 rfl rfl rfl (by simp) rfl ?_; refine .seq ?_; refine .region ?_; refine vk (vbx) ?_; refine vk (van (zero_of gI_Itm) gZ_Itm) ?_; refine rn ?_; refine .gh (Gh.keep [1, 2] rfl) ?_; refine .seq ?_; refine .drawn 9 mixed (by kernel_rfl) ?_; refine dv (vfa gF_Itm_0) ?_; refine dv (vldp ga_ItemKind) ?_; refine dv (vfa gF_Itm_2) ?_; refine dv (vldp ga_int32) ?_; refine dv (vfa gF_Itm_1) ?_; refine dv (vlda gA_R gS_R) ?_
  obtain ⟨x1, hx1, h⟩ := bnd h
  refine dv (vcl0 (array_copiedRat_ok hx1) Tryz.call157) ?_; refine dv (vbdA gP_Itm gI_Itm (fun w I μ => gZA_Itm w I μ)) ?_; refine dv (van (zero_of gI_Itm) gZ_Itm) ?_; refine dz ?_
  refine stnA ?_ gS_Itm (by decide)
  refine rn ?_; refine .gh (Gh.keep [1, 2, 3] rfl) ?_; refine .seq ?_; refine .seq ?_; refine .region ?_; refine vk (vfa gF_Itm_3) ?_; refine vk (vldp ga_Ars) ?_; refine vk (vlnE (Ars_length _) (Ars_sz _) gu_Ars) ?_; refine vk (vmvd) ?_; refine rn ?_; refine .gh (Gh.keep [2, 3, 15, 16, 17] rfl) ?_
  obtain ⟨K0, hK0, h⟩ := jn_out h
  refine AW.mr (σ := Int × Bool × (List Nat) × (List Nat) × Int × (List Arr)) (fun p => K0 p.1 p.2.1 p.2.2.1 p.2.2.2.1 p.2.2.2.2.1 p.2.2.2.2.2 = some r) (fun p => [(2, .nb [.i .u8 0, .b false, .sl (L []), .sl (L []), .i .i32 0, .sl (Ars [])]), (3, .bp 0 0)]) (fun p => [HO.box [.d (.i .u8 p.1), .d (.b p.2.1), .d (.sl (L p.2.2.1)), .d (.sl (L p.2.2.2.1)), .d (.i .i32 p.2.2.2.2.1), .own 25 (Ars p.2.2.2.2.2)]]) ?_ ?_
  · skip
    refine .block ?_; refine .gh (Gh.nlOwnC (id := 0) (off := 5) 25 (by rw [gz_Arr]; decide)) ?_
    refine .loop (.gh (Gh.keep [2, 3, 15, 16, 17] rfl) ?_)
    refine AL.ind (σ := Nat × Int × Int × Bool × (List Nat) × (List Nat) × Int × (List Arr)) (m := fun p => p.1) (e := fun p => [(2, .nb [.i .u8 0, .b false, .sl (L []), .sl (L []), .i .i32 0, .sl (Ars [])]), (3, .bp 0 0), (15, .d (.sl (Ars a0.box))), (16, .d (.i .i64 ((List.length a0.box : Nat) : Int))), (17, .d (.i .i64 p.2.1))]) (h := fun p => [HO.box [.d (.i .u8 p.2.2.1), .d (.b p.2.2.2.1), .d (.sl (L p.2.2.2.2.1)), .d (.sl (L p.2.2.2.2.2.1)), .d (.i .i32 p.2.2.2.2.2.2.1), .own 25 (Ars p.2.2.2.2.2.2.2)]]) (I := fun p => ar_sameB_l1 rc_array_same a0 K0 p.1 p.2.1 p.2.2.1 p.2.2.2.1 p.2.2.2.2.1 p.2.2.2.2.2.1 p.2.2.2.2.2.2.1 p.2.2.2.2.2.2.2 = some r) ?_ (FUEL, 0, a0.kind, x1.1, x1.2.1, x1.2.2, a0.char, []) h
    rintro ⟨k, s8, s9, s10, s11, s12, s13, s14⟩ h ih
    dsimp only at h ih ⊢
    rcases k with _ | k
    · rw [ar_sameB_l1] at h; cases h
    rw [ar_sameB_l1] at h
    refine .seq ?_; refine .region ?_; refine vk (vbi) ?_; refine rn ?_; refine .gh (Gh.keep [2, 3, 15, 16, 17, 18] rfl) ?_; refine .seq ?_
    by_cases hc : s8 < ((List.length a0.box : Nat) : Int)
    · replace h := ite_t hc h
      refine cnt (decide_eq_true hc) ?_; refine .skip ?_
      show AW _ _ _ _ _ _
      refine .seq ?_; refine .block ?_; refine .seq ?_; refine .region ?_
      obtain ⟨x15, hx15, h⟩ := bnd h
      obtain ⟨nx15, hnx15, hxx15⟩ := rd_some hx15
      refine vk (vix nx15 hnx15 (Ars_at hxx15) rfl gs_Ars) ?_; refine vk (vlda gA_Arr gS_Arr) ?_; refine vk (van (zero_of gI_Arr) gZ_Arr) ?_
      refine stn ?_ gS_Arr (by decide)
      refine rn ?_; refine .gh (Gh.keep [2, 3, 5, 15, 16, 17] rfl) ?_; refine .drawn 5 mixed (by kernel_rfl) ?_; refine dv (vfab gF_Itm_3) ?_; refine dv (vldbo (cs := [.d (.i .u8 s9), .d (.b s10), .d (.sl (L s11)), .d (.sl (L s12)), .d (.i .i32 s13), .own 25 (Ars s14)]) rfl rfl ga_Ars) ?_; refine dv (vldn gA_Arr gS_Arr) ?_
      obtain ⟨x16, hx16, h⟩ := bnd h
      refine dv (vcl0 (array_copied_ok (FWOK Tryz.call173 (fun _ _ h => orc_array_same _ _ h)) hx16) Tryz.call174) ?_; refine dv ((vbslE (Ars_bs1 x16) (Ars_flat [x16]) ge_Ars).deep) ?_; refine dz ?_
      obtain ⟨x17, hx17, h⟩ := bnd h
      refine apc' Ars_app hx17 rfl rfl gB_Ars ?_ Ars_sz1 Ars_length ge_Ars
      refine RL.gh (Gh.keep [2, 3, 5, 15, 16, 17, 21, 23, 24, 25, 26] rfl) ?_; refine vk (vfab gF_Itm_3) ?_
      refine stbo (cs := [.d (.i .u8 s9), .d (.b s10), .d (.sl (L s11)), .d (.sl (L s12)), .d (.i .i32 s13), .un]) (c := .un) rfl rfl ?_ gz_Ars
      refine .nil ?_
      show AW _ _ _ _ _ _
      refine .gh (Gh.keep [2, 3, 15, 16, 17] rfl) ?_; refine .region ?_; refine vk (vbi) ?_; refine vk (vmvd) ?_; refine .nil ?_; refine AL.gh (Gh.keep [2, 3, 15, 16, 17] rfl) ?_
      exact ih (k, (w64 (s8 + 1)), s9, s10, s11, s12, s13, x17) h (Nat.lt_succ_self _)
    replace h := ite_f hc h
    refine cnf (decide_eq_false hc) ?_; refine .gh (Gh.keep [2, 3] rfl) ?_; refine .exit ?_
    exact jr (s9, s10, s11, s12, s13, s14) h
  rintro ⟨z2, z3, z4, z5, z6, z7⟩ h
  try dsimp only at h ⊢
  subst hK0
  show AW _ _ _ _ _ _
  refine .seq ?_; refine .region ?_; refine fz (p := .c 0 5) ?_; refine vk (vldba (cs := [.d (.i .u8 z2), .d (.b z3), .d (.sl (L z4)), .d (.sl (L z5)), .d (.i .i32 z6), .d (.sl (Ars z7))]) (ds := [.i .u8 z2, .b z3, .sl (L z4), .sl (L z5), .i .i32 z6, .sl (Ars z7)]) rfl gA_Itm gS_Itm) ?_
  refine stn ?_ gS_Itm (by decide)
  refine rn ?_; refine .gh (Gh.keep [2] rfl) ?_; refine .ret ?_
  cases h
  exact ⟨_, ⟨.inr rfl, gA_Itm, gS_Itm, (by decide : (0 : Nat) < 6)⟩, rfl⟩

def ar_same_r : Nat → Itm → Option (Itm)
  | 0, _ => none
  | k + 1, a0 => ar_sameB (ar_same_r k) a0
theorem ar_same_r_ok : ∀ (k : Nat) (a0 : Itm) (r : Itm), ar_same_r k a0 = some r → Fn Tryz.prog 173 [.ag [.i .u8 a0.kind, .b a0.num.1, .sl (L a0.num.2.1), .sl (L a0.num.2.2), .i .i32 a0.char, .sl (Ars a0.box)]] (.d (.ag [.i .u8 r.kind, .b r.num.1, .sl (L r.num.2.1), .sl (L r.num.2.2), .i .i32 r.char, .sl (Ars r.box)]))
  | 0, _, _, h => by cases h
  | k + 1, a0, _, h => ar_sameB_ok (ar_same_r_ok k) (show ar_sameB (ar_same_r k) a0 = some _ from h)
def ar_same (a0 : Itm) : Option (Itm) := ar_same_r (a0.size + 1) a0
theorem ar_same_ok {a0 : Itm} {r : Itm} (h : ar_same a0 = some r) : Fn Tryz.prog 173 [.ag [.i .u8 a0.kind, .b a0.num.1, .sl (L a0.num.2.1), .sl (L a0.num.2.2), .i .i32 a0.char, .sl (Ars a0.box)]] (.d (.ag [.i .u8 r.kind, .b r.num.1, .sl (L r.num.2.1), .sl (L r.num.2.2), .i .i32 r.char, .sl (Ars r.box)])) := ar_same_r_ok _ a0 r h

def ar_typedB (rc_array_typed : Itm → Option (Itm)) (a0 : Itm) : Option (Itm) := (if a0.kind = 1 then ((ratOfInt 0).bind fun x1 => ((array_number x1).bind fun x2 => (some (x2)))) else (if a0.kind = 2 then ((array_char 32).bind fun x3 => (some (x3))) else ((rd? a0.box 0).bind fun x4 => ((array_copied x4 (⟨.fn 183 [] [], fun x => rc_array_typed x⟩ : FT_Itm__Itm)).bind fun x5 => (some ((Itm.mk 3 (false, [], []) 0 [x5])))))))
theorem ar_typedB_ok {rc_array_typed : Itm → Option (Itm)} (orc_array_typed : ∀ x0 r, rc_array_typed x0 = some r → Fn Tryz.prog 183 [.ag [.i .u8 x0.kind, .b x0.num.1, .sl (L x0.num.2.1), .sl (L x0.num.2.2), .i .i32 x0.char, .sl (Ars x0.box)]] (.d (.ag [.i .u8 r.kind, .b r.num.1, .sl (L r.num.2.1), .sl (L r.num.2.2), .i .i32 r.char, .sl (Ars r.box)]))) {a0 : Itm} {r : Itm} (h : ar_typedB rc_array_typed a0 = some r) :
    Fn Tryz.prog 183 [.ag [.i .u8 a0.kind, .b a0.num.1, .sl (L a0.num.2.1), .sl (L a0.num.2.2), .i .i32 a0.char, .sl (Ars a0.box)]] (.d (.ag [.i .u8 r.kind, .b r.num.1, .sl (L r.num.2.1), .sl (L r.num.2.2), .i .i32 r.char, .sl (Ars r.box)])) := by
  unfold ar_typedB at h
  refine Fn.ofC (rs := [.cell 2 83]) (nt := 19) Tryz.func183 rfl rfl rfl (by simp) rfl ?_; refine .seq ?_; refine .region ?_; refine vk (vbx) ?_; refine vk (van (zero_of gI_Itm) gZ_Itm) ?_; refine rn ?_; refine .gh (Gh.keep [1, 2] rfl) ?_; refine .seq ?_; refine .seq ?_; refine .region ?_; refine vk (vfa gF_Itm_0) ?_; refine vk (vldp ga_ItemKind) ?_; refine rn ?_; refine .gh (Gh.keep [1, 2, 4] rfl) ?_; refine .block ?_; refine .seq ?_; refine .region ?_; refine vk (vbi) ?_; refine asd ?_; refine rn ?_; refine .gh (Gh.keep [1, 2, 4, 5] rfl) ?_
  by_cases hc : a0.kind = 1
  · replace h := ite_t hc h
    refine cnt (decide_eq_true hc) ?_; refine .seq ?_; refine .region ?_
    obtain ⟨x1, hx1, h⟩ := bnd h
    refine vk (vcl0 (ratOfInt_ok hx1) Tryz.call72) ?_
    obtain ⟨x2, hx2, h⟩ := bnd h
    refine vk (vcl0 (array_number_ok hx2) Tryz.call71) ?_
    refine stn ?_ gS_Itm (by decide)
    refine rn ?_; refine .gh (Gh.keep [1, 2] rfl) ?_; refine .ret ?_
    cases h
    exact ⟨_, ⟨.inr rfl, gA_Itm, gS_Itm, (by decide : (0 : Nat) < 6)⟩, rfl⟩
  replace h := ite_f hc h
  refine cnf (decide_eq_false hc) ?_; refine .seq ?_; refine .region ?_; refine vk (vbi) ?_; refine asd ?_; refine rn ?_; refine .gh (Gh.keep [1, 2, 9] rfl) ?_
  by_cases hc : a0.kind = 2
  · replace h := ite_t hc h
    refine cnt (decide_eq_true hc) ?_; refine .seq ?_; refine .region ?_
    obtain ⟨x3, hx3, h⟩ := bnd h
    refine vk (vcl0 (array_char_ok hx3) Tryz.call228) ?_
    refine stn ?_ gS_Itm (by decide)
    refine rn ?_; refine .gh (Gh.keep [1, 2] rfl) ?_; refine .ret ?_
    cases h
    exact ⟨_, ⟨.inr rfl, gA_Itm, gS_Itm, (by decide : (0 : Nat) < 6)⟩, rfl⟩
  replace h := ite_f hc h
  refine cnf (decide_eq_false hc) ?_; refine .skip ?_
  show AW _ _ _ _ _ _
  refine .seq ?_; refine .region ?_; refine vk (vfa gF_Itm_3) ?_; refine vk (vldp ga_Ars) ?_
  obtain ⟨x4, hx4, h⟩ := bnd h
  obtain ⟨nx4, hnx4, hxx4⟩ := rd_some hx4
  refine vk (vix nx4 hnx4 (Ars_at hxx4) rfl gs_Ars) ?_; refine vk (vlda gA_Arr gS_Arr) ?_
  obtain ⟨x5, hx5, h⟩ := bnd h
  refine vk (vcl0 (array_copied_ok (FWOK Tryz.call183 (fun _ _ h => orc_array_typed _ _ h)) hx5) Tryz.call174) ?_; refine vk ((vbslE (Ars_bs1 x5) (Ars_flat [x5]) ge_Ars).deep) ?_; refine vk (vbd gP_Itm gI_Itm gZ_Itm) ?_
  refine stn ?_ gS_Itm (by decide)
  refine rn ?_; refine .gh (Gh.keep [2] rfl) ?_; refine .ret ?_
  cases h
  exact ⟨_, ⟨.inr rfl, gA_Itm, gS_Itm, (by decide : (0 : Nat) < 6)⟩, rfl⟩

def ar_typed_r : Nat → Itm → Option (Itm)
  | 0, _ => none
  | k + 1, a0 => ar_typedB (ar_typed_r k) a0
theorem ar_typed_r_ok : ∀ (k : Nat) (a0 : Itm) (r : Itm), ar_typed_r k a0 = some r → Fn Tryz.prog 183 [.ag [.i .u8 a0.kind, .b a0.num.1, .sl (L a0.num.2.1), .sl (L a0.num.2.2), .i .i32 a0.char, .sl (Ars a0.box)]] (.d (.ag [.i .u8 r.kind, .b r.num.1, .sl (L r.num.2.1), .sl (L r.num.2.2), .i .i32 r.char, .sl (Ars r.box)]))
  | 0, _, _, h => by cases h
  | k + 1, a0, _, h => ar_typedB_ok (ar_typed_r_ok k) (show ar_typedB (ar_typed_r k) a0 = some _ from h)
def ar_typed (a0 : Itm) : Option (Itm) := ar_typed_r (a0.size + 1) a0
theorem ar_typed_ok {a0 : Itm} {r : Itm} (h : ar_typed a0 = some r) : Fn Tryz.prog 183 [.ag [.i .u8 a0.kind, .b a0.num.1, .sl (L a0.num.2.1), .sl (L a0.num.2.2), .i .i32 a0.char, .sl (Ars a0.box)]] (.d (.ag [.i .u8 r.kind, .b r.num.1, .sl (L r.num.2.1), .sl (L r.num.2.2), .i .i32 r.char, .sl (Ars r.box)])) := ar_typed_r_ok _ a0 r h
end Go.FL
/-
  GP: array: equal arrays.
-/
namespace Go.FL
open Go Go.Proofs

def slices_Equal_int_int_l1 (a0 : (List Int)) (a1 : (List Int)) (K0 : Bool → Option (Bool)) : Nat → Bool → Int → Option (Bool)
  | 0, _, _ => none
  | k + 1, s2, s3 => (if s3 < ((List.length a0 : Nat) : Int) then ((rd? a0 s3).bind fun x4 => ((rd? a1 s3).bind fun x5 => (if x4 = x5 then (slices_Equal_int_int_l1 a0 a1 K0 k s2 (w64 (s3 + 1))) else (some (false))))) else (K0 s2))
def slices_Equal_int_int (a0 : (List Int)) (a1 : (List Int)) : Option (Bool) := (if ((List.length a0 : Nat) : Int) = ((List.length a1 : Nat) : Int) then (jn (fun (z1 : Bool) => (some (true))) fun K0 => (slices_Equal_int_int_l1 a0 a1 K0 FUEL false 0)) else (some (false)))
theorem slices_Equal_int_int_ok {a0 : (List Int)} {a1 : (List Int)} {r : Bool} (h : slices_Equal_int_int a0 a1 = some r) :
    Fn Tryz.prog 109 [.sl (Is a0), .sl (Is a1)] (.d (.b r)) := by
  unfold slices_Equal_int_int at h
  refine Fn.of (rs := [.tmp 4]) (nt := 26) Tryz.func109 rfl rfl rfl (by simp) rfl ?_; refine .seq ?_; refine .region ?_; refine asd ?_; refine rn ?_; refine .gh (Gh.keep [0, 1, 4] rfl) ?_; refine .seq ?_; refine .seq ?_; refine .region ?_; refine vk (vmvd) ?_; refine vk (vlnE (Is_length _) (Is_sz _) gu_Is) ?_; refine vk (vmvd) ?_; refine vk (vlnE (Is_length _) (Is_sz _) gu_Is) ?_; refine vk (vbi) ?_; refine rn ?_; refine .gh (Gh.keep [0, 1, 4, 10] rfl) ?_
  by_cases hc : ((List.length a0 : Nat) : Int) = ((List.length a1 : Nat) : Int)
  · replace h := ite_t hc h
    refine cnf (ntf (decide_eq_true hc)) ?_; refine .skip ?_
    show AW _ _ _ _ _ _
    refine .seq ?_; refine .seq ?_; refine .region ?_; refine vk (vmvd) ?_; refine vk (vlnE (Is_length _) (Is_sz _) gu_Is) ?_; refine vk (vmvd) ?_; refine rn ?_; refine .gh (Gh.keep [0, 1, 4, 12, 13] rfl) ?_
    obtain ⟨K0, hK0, h⟩ := jn_out h
    refine AW.mr (σ := Bool) (fun p => K0 p = some r) (fun p => [(4, .d (.b p))]) (fun p => []) ?_ ?_
    · skip
      refine .block ?_
      refine .loop (.gh (Gh.keep [0, 1, 4, 12, 13] rfl) ?_)
      refine AL.ind (σ := Nat × Bool × Int) (m := fun p => p.1) (e := fun p => [(0, .d (.sl (Is a0))), (1, .d (.sl (Is a1))), (4, .d (.b p.2.1)), (12, .d (.i .i64 ((List.length a0 : Nat) : Int))), (13, .d (.i .i64 p.2.2))]) (h := fun p => []) (I := fun p => slices_Equal_int_int_l1 a0 a1 K0 p.1 p.2.1 p.2.2 = some r) ?_ (FUEL, false, 0) h
      rintro ⟨k, s2, s3⟩ h ih
      dsimp only at h ih ⊢
      rcases k with _ | k
      · rw [slices_Equal_int_int_l1] at h; cases h
      rw [slices_Equal_int_int_l1] at h
      refine .seq ?_; refine .region ?_; refine vk (vbi) ?_; refine rn ?_; refine .gh (Gh.keep [0, 1, 4, 12, 13, 14] rfl) ?_; refine .seq ?_
      by_cases hc : s3 < ((List.length a0 : Nat) : Int)
      · replace h := ite_t hc h
        refine cnt (decide_eq_true hc) ?_; refine .skip ?_
        show AW _ _ _ _ _ _
        refine .seq ?_; refine .block ?_; refine .seq ?_; refine .region ?_; refine vk (vmvd) ?_; refine asd ?_; refine rn ?_; refine .gh (Gh.keep [0, 1, 4, 5, 12, 13] rfl) ?_; refine .seq ?_; refine .drawn 9 mixed (by kernel_rfl) ?_; refine dv (vmvd) ?_; refine dv (vmvd) ?_
        obtain ⟨x4, hx4, h⟩ := bnd h
        obtain ⟨nx4, hnx4, hxx4⟩ := rd_some hx4
        refine dv (vix nx4 hnx4 (Is_at hxx4) rfl gs_Is) ?_; refine dv (vldp ga_int) ?_; refine dv (vmvd) ?_; refine dv (vmvd) ?_
        obtain ⟨x5, hx5, h⟩ := bnd h
        obtain ⟨nx5, hnx5, hxx5⟩ := rd_some hx5
        refine dv (vix nx5 hnx5 (Is_at hxx5) rfl gs_Is) ?_; refine dv (vldp ga_int) ?_; refine dv (vbi) ?_; refine dz ?_; refine rn ?_; refine .gh (Gh.keep [0, 1, 4, 12, 13, 24] rfl) ?_
        by_cases hc : x4 = x5
        · replace h := ite_t hc h
          refine cnf (ntf (decide_eq_true hc)) ?_; refine .skip ?_
          show AW _ _ _ _ _ _
          refine .region ?_; refine vk (vbi) ?_; refine vk (vmvd) ?_; refine .nil ?_; refine AL.gh (Gh.keep [0, 1, 4, 12, 13] rfl) ?_
          exact ih (k, s2, (w64 (s3 + 1))) h (Nat.lt_succ_self _)
        replace h := ite_f hc h
        refine cnt (ntt (decide_eq_false hc)) ?_; refine .seq ?_; refine .region ?_; refine asd ?_; refine rn ?_; refine .gh (Gh.keep [0, 1, 4, 12, 13] rfl) ?_; refine .ret ?_
        cases h
        exact ⟨rfl, rfl⟩
      replace h := ite_f hc h
      refine cnf (decide_eq_false hc) ?_; refine .gh (Gh.keep [4] rfl) ?_; refine .exit ?_
      exact jr (s2) h
    rintro z1 h
    try dsimp only at h ⊢
    subst hK0
    show AW _ _ _ _ _ _
    refine .seq ?_; refine .region ?_; refine asd ?_; refine rn ?_; refine .gh (Gh.keep [4] rfl) ?_; refine .ret ?_
    cases h
    exact ⟨rfl, rfl⟩
  replace h := ite_f hc h
  refine cnt (ntt (decide_eq_false hc)) ?_; refine .seq ?_; refine .region ?_; refine asd ?_; refine rn ?_; refine .gh (Gh.keep [0, 1, 4] rfl) ?_; refine .ret ?_
  cases h
  exact ⟨rfl, rfl⟩

def slices_EqualFunc_api_Item_api_Item_api_Item_api_Item_l1 (a0 : (List Itm)) (a1 : (List Itm)) (a2 : FT_Itm_Itm__bool) (K0 : Bool → Option (Bool)) : Nat → Bool → Int → Option (Bool)
  | 0, _, _ => none
  | k + 1, s2, s3 => (if s3 < ((List.length a0 : Nat) : Int) then ((rd? a0 s3).bind fun x4 => ((rd? a1 s3).bind fun x5 => ((a2.g (x4, x5)).bind fun x6 => (if x6 = true then (slices_EqualFunc_api_Item_api_Item_api_Item_api_Item_l1 a0 a1 a2 K0 k s2 (w64 (s3 + 1))) else (some (false)))))) else (K0 s2))
def slices_EqualFunc_api_Item_api_Item_api_Item_api_Item (a0 : (List Itm)) (a1 : (List Itm)) (a2 : FT_Itm_Itm__bool) : Option (Bool) := (if ((List.length a0 : Nat) : Int) = ((List.length a1 : Nat) : Int) then (jn (fun (z1 : Bool) => (some (true))) fun K0 => (slices_EqualFunc_api_Item_api_Item_api_Item_api_Item_l1 a0 a1 a2 K0 FUEL false 0)) else (some (false)))
theorem slices_EqualFunc_api_Item_api_Item_api_Item_api_Item_ok {a0 : (List Itm)} {a1 : (List Itm)} {a2 : FT_Itm_Itm__bool} (oa2 : FO_Itm_Itm__bool a2) {r : Bool} (h : slices_EqualFunc_api_Item_api_Item_api_Item_api_Item a0 a1 a2 = some r) :
    Fn Tryz.prog 110 [.sl (Its a0), .sl (Its a1), a2.dv] (.d (.b r)) := by
  unfold slices_EqualFunc_api_Item_api_Item_api_Item_api_Item at h
  refine Fn.of (rs := [.tmp 6]) (nt := 32) Tryz.func110 rfl rfl rfl (by simp) rfl ?_; refine .seq ?_; refine .region ?_; refine asd ?_; refine rn ?_; refine .gh (Gh.keep [0, 1, 2, 6] rfl) ?_; refine .seq ?_; refine .seq ?_; refine .region ?_; refine vk (vmvd) ?_; refine vk (vlnE (Its_length _) (Its_sz _) gu_Its) ?_; refine vk (vmvd) ?_; refine vk (vlnE (Its_length _) (Its_sz _) gu_Its) ?_; refine vk (vbi) ?_; refine rn ?_; refine .gh (Gh.keep [0, 1, 2, 6, 14] rfl) ?_
  by_cases hc : ((List.length a0 : Nat) : Int) = ((List.length a1 : Nat) : Int)
  · replace h := ite_t hc h
    refine cnf (ntf (decide_eq_true hc)) ?_; refine .skip ?_
    show AW _ _ _ _ _ _
    refine .seq ?_; refine .seq ?_; refine .region ?_; refine vk (vmvd) ?_; refine vk (vlnE (Its_length _) (Its_sz _) gu_Its) ?_; refine vk (vmvd) ?_; refine rn ?_; refine .gh (Gh.keep [1, 2, 6, 15, 16, 17] rfl) ?_
    obtain ⟨K0, hK0, h⟩ := jn_out h
    refine AW.mr (σ := Bool) (fun p => K0 p = some r) (fun p => [(6, .d (.b p))]) (fun p => []) ?_ ?_
    · skip
      refine .block ?_
      refine .loop (.gh (Gh.keep [1, 2, 6, 15, 16, 17] rfl) ?_)
      refine AL.ind (σ := Nat × Bool × Int) (m := fun p => p.1) (e := fun p => [(1, .d (.sl (Its a1))), (2, .d (a2.dv)), (6, .d (.b p.2.1)), (15, .d (.sl (Its a0))), (16, .d (.i .i64 ((List.length a0 : Nat) : Int))), (17, .d (.i .i64 p.2.2))]) (h := fun p => []) (I := fun p => slices_EqualFunc_api_Item_api_Item_api_Item_api_Item_l1 a0 a1 a2 K0 p.1 p.2.1 p.2.2 = some r) ?_ (FUEL, false, 0) h
      rintro ⟨k, s2, s3⟩ h ih
      dsimp only at h ih ⊢
      rcases k with _ | k
      · rw [slices_EqualFunc_api_Item_api_Item_api_Item_api_Item_l1] at h; cases h
      rw [slices_EqualFunc_api_Item_api_Item_api_Item_api_Item_l1] at h
      refine .seq ?_; refine .region ?_; refine vk (vbi) ?_; refine rn ?_; refine .gh (Gh.keep [1, 2, 6, 15, 16, 17, 18] rfl) ?_; refine .seq ?_
      by_cases hc : s3 < ((List.length a0 : Nat) : Int)
      · replace h := ite_t hc h
        refine cnt (decide_eq_true hc) ?_; refine .skip ?_
        show AW _ _ _ _ _ _
        refine .seq ?_; refine .block ?_; refine .seq ?_; refine .region ?_; refine vk (vmvd) ?_
        obtain ⟨x4, hx4, h⟩ := bnd h
        obtain ⟨nx4, hnx4, hxx4⟩ := rd_some hx4
        refine vk (vix nx4 hnx4 (Its_at hxx4) rfl gs_Its) ?_; refine vk (vlda gA_Itm gS_Itm) ?_; refine vk (van (zero_of gI_Itm) gZ_Itm) ?_; refine asd ?_
        refine stn ?_ gS_Itm (by decide)
        refine rn ?_; refine .gh (Gh.keep [1, 2, 6, 7, 8, 15, 16, 17] rfl) ?_; refine .seq ?_; refine .region ?_; refine vk (vmvd) ?_; refine vk (vmvd) ?_
        obtain ⟨x5, hx5, h⟩ := bnd h
        obtain ⟨nx5, hnx5, hxx5⟩ := rd_some hx5
        refine vk (vix nx5 hnx5 (Its_at hxx5) rfl gs_Its) ?_; refine vk (vlda gA_Itm gS_Itm) ?_; refine vk (van (zero_of gI_Itm) gZ_Itm) ?_
        refine stn ?_ gS_Itm (by decide)
        refine rn ?_; refine .gh (Gh.keep [1, 2, 6, 8, 9, 15, 16, 17] rfl) ?_; refine .seq ?_; refine .region ?_; refine vk (vmvd) ?_; refine vk (vldn gA_Itm gS_Itm) ?_; refine vk (vldn gA_Itm gS_Itm) ?_
        obtain ⟨x6, hx6, h⟩ := bnd h
        refine vk (vclv (oa2 _ _ hx6)) ?_; refine vk (vnt) ?_; refine rn ?_; refine .gh (Gh.keep [1, 2, 6, 15, 16, 17, 30] rfl) ?_
        by_cases hc : x6 = true
        · replace h := ite_t hc h
          refine cnf (ntf hc) ?_; refine .skip ?_
          show AW _ _ _ _ _ _
          refine .region ?_; refine vk (vbi) ?_; refine vk (vmvd) ?_; refine .nil ?_; refine AL.gh (Gh.keep [1, 2, 6, 15, 16, 17] rfl) ?_
          exact ih (k, s2, (w64 (s3 + 1))) h (Nat.lt_succ_self _)
        replace h := ite_f hc h
        refine cnt (ntt (bf hc)) ?_; refine .seq ?_; refine .region ?_; refine asd ?_; refine rn ?_; refine .gh (Gh.keep [1, 2, 6, 15, 16, 17] rfl) ?_; refine .ret ?_
        cases h
        exact ⟨rfl, rfl⟩
      replace h := ite_f hc h
      refine cnf (decide_eq_false hc) ?_; refine .gh (Gh.keep [6] rfl) ?_; refine .exit ?_
      exact jr (s2) h
    rintro z1 h
    try dsimp only at h ⊢
    subst hK0
    show AW _ _ _ _ _ _
    refine .seq ?_; refine .region ?_; refine asd ?_; refine rn ?_; refine .gh (Gh.keep [6] rfl) ?_; refine .ret ?_
    cases h
    exact ⟨rfl, rfl⟩
  replace h := ite_f hc h
  refine cnt (ntt (decide_eq_false hc)) ?_; refine .seq ?_; refine .region ?_; refine asd ?_; refine rn ?_; refine .gh (Gh.keep [0, 1, 2, 6] rfl) ?_; refine .ret ?_
  cases h
  exact ⟨rfl, rfl⟩

def slices_EqualFunc_api_Array_api_Array_api_Array_api_Array_l1 (a0 : (List Arr)) (a1 : (List Arr)) (a2 : FT_Arr_Arr__bool) (K0 : Bool → Option (Bool)) : Nat → Bool → Int → Option (Bool)
  | 0, _, _ => none
  | k + 1, s2, s3 => (if s3 < ((List.length a0 : Nat) : Int) then ((rd? a0 s3).bind fun x4 => ((rd? a1 s3).bind fun x5 => ((a2.g (x4, x5)).bind fun x6 => (if x6 = true then (slices_EqualFunc_api_Array_api_Array_api_Array_api_Array_l1 a0 a1 a2 K0 k s2 (w64 (s3 + 1))) else (some (false)))))) else (K0 s2))
def slices_EqualFunc_api_Array_api_Array_api_Array_api_Array (a0 : (List Arr)) (a1 : (List Arr)) (a2 : FT_Arr_Arr__bool) : Option (Bool) := (if ((List.length a0 : Nat) : Int) = ((List.length a1 : Nat) : Int) then (jn (fun (z1 : Bool) => (some (true))) fun K0 => (slices_EqualFunc_api_Array_api_Array_api_Array_api_Array_l1 a0 a1 a2 K0 FUEL false 0)) else (some (false)))
theorem slices_EqualFunc_api_Array_api_Array_api_Array_api_Array_ok {a0 : (List Arr)} {a1 : (List Arr)} {a2 : FT_Arr_Arr__bool} (oa2 : FO_Arr_Arr__bool a2) {r : Bool} (h : slices_EqualFunc_api_Array_api_Array_api_Array_api_Array a0 a1 a2 = some r) :
    Fn Tryz.prog 113 [.sl (Ars a0), .sl (Ars a1), a2.dv] (.d (.b r)) := by
  unfold slices_EqualFunc_api_Array_api_Array_api_Array_api_Array at h
  refine Fn.of (rs := [.tmp 6]) (nt := 32) Tryz.func113 rfl rfl rfl (by simp) rfl ?_; refine .seq ?_; refine .region ?_; refine asd ?_; refine rn ?_; refine .gh (Gh.keep [0, 1, 2, 6] rfl) ?_; refine .seq ?_; refine .seq ?_; refine .region ?_; refine vk (vmvd) ?_; refine vk (vlnE (Ars_length _) (Ars_sz _) gu_Ars) ?_; refine vk (vmvd) ?_; refine vk (vlnE (Ars_length _) (Ars_sz _) gu_Ars) ?_; refine vk (vbi) ?_; refine rn ?_; refine .gh (Gh.keep [0, 1, 2, 6, 14] rfl) ?_
  by_cases hc : ((List.length a0 : Nat) : Int) = ((List.length a1 : Nat) : Int)
  · replace h := ite_t hc h
    refine cnf (ntf (decide_eq_true hc)) ?_; refine .skip ?_
    show AW _ _ _ _ _ _
    refine .seq ?_; refine .seq ?_; refine .region ?_; refine vk (vmvd) ?_; refine vk (vlnE (Ars_length _) (Ars_sz _) gu_Ars) ?_; refine vk (vmvd) ?_; refine rn ?_; refine .gh (Gh.keep [1, 2, 6, 15, 16, 17] rfl) ?_
    obtain ⟨K0, hK0, h⟩ := jn_out h
    refine AW.mr (σ := Bool) (fun p => K0 p = some r) (fun p => [(6, .d (.b p))]) (fun p => []) ?_ ?_
    · skip
      refine .block ?_
      refine .loop (.gh (Gh.keep [1, 2, 6, 15, 16, 17] rfl) ?_)
      refine AL.ind (σ := Nat × Bool × Int) (m := fun p => p.1) (e := fun p => [(1, .d (.sl (Ars a1))), (2, .d (a2.dv)), (6, .d (.b p.2.1)), (15, .d (.sl (Ars a0))), (16, .d (.i .i64 ((List.length a0 : Nat) : Int))), (17, .d (.i .i64 p.2.2))]) (h := fun p => []) (I := fun p => slices_EqualFunc_api_Array_api_Array_api_Array_api_Array_l1 a0 a1 a2 K0 p.1 p.2.1 p.2.2 = some r) ?_ (FUEL, false, 0) h
      rintro ⟨k, s2, s3⟩ h ih
      dsimp only at h ih ⊢
      rcases k with _ | k
      · rw [slices_EqualFunc_api_Array_api_Array_api_Array_api_Array_l1] at h; cases h
      rw [slices_EqualFunc_api_Array_api_Array_api_Array_api_Array_l1] at h
      refine .seq ?_; refine .region ?_; refine vk (vbi) ?_; refine rn ?_; refine .gh (Gh.keep [1, 2, 6, 15, 16, 17, 18] rfl) ?_; refine .seq ?_
      by_cases hc : s3 < ((List.length a0 : Nat) : Int)
      · replace h := ite_t hc h
        refine cnt (decide_eq_true hc) ?_; refine .skip ?_
        show AW _ _ _ _ _ _
        refine .seq ?_; refine .block ?_; refine .seq ?_; refine .region ?_; refine vk (vmvd) ?_
        obtain ⟨x4, hx4, h⟩ := bnd h
        obtain ⟨nx4, hnx4, hxx4⟩ := rd_some hx4
        refine vk (vix nx4 hnx4 (Ars_at hxx4) rfl gs_Ars) ?_; refine vk (vlda gA_Arr gS_Arr) ?_; refine vk (van (zero_of gI_Arr) gZ_Arr) ?_; refine asd ?_
        refine stn ?_ gS_Arr (by decide)
        refine rn ?_; refine .gh (Gh.keep [1, 2, 6, 7, 8, 15, 16, 17] rfl) ?_; refine .seq ?_; refine .region ?_; refine vk (vmvd) ?_; refine vk (vmvd) ?_
        obtain ⟨x5, hx5, h⟩ := bnd h
        obtain ⟨nx5, hnx5, hxx5⟩ := rd_some hx5
        refine vk (vix nx5 hnx5 (Ars_at hxx5) rfl gs_Ars) ?_; refine vk (vlda gA_Arr gS_Arr) ?_; refine vk (van (zero_of gI_Arr) gZ_Arr) ?_
        refine stn ?_ gS_Arr (by decide)
        refine rn ?_; refine .gh (Gh.keep [1, 2, 6, 8, 9, 15, 16, 17] rfl) ?_; refine .seq ?_; refine .region ?_; refine vk (vmvd) ?_; refine vk (vldn gA_Arr gS_Arr) ?_; refine vk (vldn gA_Arr gS_Arr) ?_
        obtain ⟨x6, hx6, h⟩ := bnd h
        refine vk (vclv (oa2 _ _ hx6)) ?_; refine vk (vnt) ?_; refine rn ?_; refine .gh (Gh.keep [1, 2, 6, 15, 16, 17, 30] rfl) ?_
        by_cases hc : x6 = true
        · replace h := ite_t hc h
          refine cnf (ntf hc) ?_; refine .skip ?_
          show AW _ _ _ _ _ _
          refine .region ?_; refine vk (vbi) ?_; refine vk (vmvd) ?_; refine .nil ?_; refine AL.gh (Gh.keep [1, 2, 6, 15, 16, 17] rfl) ?_
          exact ih (k, s2, (w64 (s3 + 1))) h (Nat.lt_succ_self _)
        replace h := ite_f hc h
        refine cnt (ntt (bf hc)) ?_; refine .seq ?_; refine .region ?_; refine asd ?_; refine rn ?_; refine .gh (Gh.keep [1, 2, 6, 15, 16, 17] rfl) ?_; refine .ret ?_
        cases h
        exact ⟨rfl, rfl⟩
      replace h := ite_f hc h
      refine cnf (decide_eq_false hc) ?_; refine .gh (Gh.keep [6] rfl) ?_; refine .exit ?_
      exact jr (s2) h
    rintro z1 h
    try dsimp only at h ⊢
    subst hK0
    show AW _ _ _ _ _ _
    refine .seq ?_; refine .region ?_; refine asd ?_; refine rn ?_; refine .gh (Gh.keep [6] rfl) ?_; refine .ret ?_
    cases h
    exact ⟨rfl, rfl⟩
  replace h := ite_f hc h
  refine cnt (ntt (decide_eq_false hc)) ?_; refine .seq ?_; refine .region ?_; refine asd ?_; refine rn ?_; refine .gh (Gh.keep [0, 1, 2, 6] rfl) ?_; refine .ret ?_
  cases h
  exact ⟨rfl, rfl⟩

def ar_equal1 (rc_array_equal : Arr → Arr → Option (Bool)) (a0 : Itm) (a1 : Itm) : Option (Bool) := (if a0.kind = a1.kind then (Option.bind ((if a0.char = a1.char then (if (a0.num.1 == a1.num.1) = true then ((sEqualL a0.num.2.1 a1.num.2.1).bind fun x2 => (if x2 = true then ((sEqualL a0.num.2.2 a1.num.2.2).bind fun x3 => (if x3 = true then ((slices_EqualFunc_api_Array_api_Array_api_Array_api_Array a0.box a1.box (⟨.fn 37 [] [], fun x => rc_array_equal x.1 x.2⟩ : FT_Arr_Arr__bool)).bind fun x4 => (some x4)) else (some false))) else (some false))) else (some false)) else (some false)) : Option (Bool)) fun (z1 : Bool) => (some (z1))) else (some (false)))
theorem ar_equal1_ok {rc_array_equal : Arr → Arr → Option (Bool)} (orc_array_equal : ∀ x0 x1 r, rc_array_equal x0 x1 = some r → Fn Tryz.prog 37 [.ag [.sl (Is x0.shape), .sl (Its x0.items)], .ag [.sl (Is x1.shape), .sl (Its x1.items)]] (.d (.b r))) {a0 : Itm} {a1 : Itm} {r : Bool} (h : ar_equal1 rc_array_equal a0 a1 = some r) :
    Fn Tryz.prog 111 [.ag [.i .u8 a0.kind, .b a0.num.1, .sl (L a0.num.2.1), .sl (L a0.num.2.2), .i .i32 a0.char, .sl (Ars a0.box)], .ag [.i .u8 a1.kind, .b a1.num.1, .sl (L a1.num.2.1), .sl (L a1.num.2.2), .i .i32 a1.char, .sl (Ars a1.box)]] (.d (.b r)) := by
  unfold ar_equal1 at h
  refine Fn.of (rs := [.tmp 4]) (nt := 50) Tryz.func111 rfl rfl rfl (by simp) rfl ?_; refine .seq ?_; refine .region ?_; refine vk (vbx) ?_; refine vk (vbx) ?_; refine asd ?_; refine rn ?_; refine .gh (Gh.keep [2, 3, 4] rfl) ?_; refine .seq ?_; refine .seq ?_; refine .region ?_; refine vk (vfa gF_Itm_0) ?_; refine vk (vldp ga_ItemKind) ?_; refine rn ?_; refine .gh (Gh.keep [2, 3, 4, 6] rfl) ?_; refine .block ?_; refine .seq ?_; refine .region ?_; refine vk (vfa gF_Itm_0) ?_; refine vk (vldp ga_ItemKind) ?_; refine vk (vbi) ?_; refine asd ?_; refine rn ?_; refine .gh (Gh.keep [2, 3, 4, 7] rfl) ?_
  by_cases hc : a0.kind = a1.kind
  · replace h := ite_t hc h
    refine cnt (decide_eq_true hc) ?_; refine .seq ?_
    obtain ⟨z1, hz, h⟩ := bnd h
    refine AW.mr (σ := Unit) (fun _ => True) (fun _ => [(4, .d (.b z1))]) (fun _ => []) ?_ ?_
    · skip
      refine .region ?_; refine vk (vfa gF_Itm_2) ?_; refine vk (vldp ga_int32) ?_; refine vk (vfa gF_Itm_2) ?_; refine vk (vldp ga_int32) ?_; refine vk (vbi) ?_
      by_cases hc : a0.char = a1.char
      · replace hz := ite_t hc hz
        have hb0 : (decide (a0.char = a1.char)) = true := (decide_eq_true hc)
        refine vk (VOK.lit (vmvd) hb0) ?_; refine vk (vfa gF_Itm_1) ?_; refine vk (vfa gF_R_0) ?_; refine vk (vldp ga_bool) ?_; refine vk (vfa gF_Itm_1) ?_; refine vk (vfa gF_R_0) ?_; refine vk (vldp ga_bool) ?_; refine vk (vbbn (.inl rfl) bo) ?_; refine vk (vpkd) ?_
        by_cases hc : (a0.num.1 == a1.num.1) = true
        · replace hz := ite_t hc hz
          have hb1 : (a0.num.1 == a1.num.1) = true := hc
          refine vk (VOK.lit (vmvd) hb1) ?_; refine vk (vfa gF_Itm_1) ?_; refine vk (vfa gF_R_1) ?_; refine vk (vldp ga_L) ?_; refine vk (vfa gF_Itm_1) ?_; refine vk (vfa gF_R_1) ?_; refine vk (vldp ga_L) ?_
          obtain ⟨x2, hx2, hz⟩ := bnd hz
          refine vk (vcl0 (sEqualL_ok hx2) Tryz.call112) ?_; refine vk (vpkd) ?_
          by_cases hc : x2 = true
          · replace hz := ite_t hc hz
            have hb2 : x2 = true := hc
            refine vk (VOK.lit (vmvd) hb2) ?_; refine vk (vfa gF_Itm_1) ?_; refine vk (vfa gF_R_2) ?_; refine vk (vldp ga_L) ?_; refine vk (vfa gF_Itm_1) ?_; refine vk (vfa gF_R_2) ?_; refine vk (vldp ga_L) ?_
            obtain ⟨x3, hx3, hz⟩ := bnd hz
            refine vk (vcl0 (sEqualL_ok hx3) Tryz.call112) ?_; refine vk (vpkd) ?_
            by_cases hc : x3 = true
            · replace hz := ite_t hc hz
              have hb3 : x3 = true := hc
              refine vk (VOK.lit (vmvd) hb3) ?_; refine vk (vfa gF_Itm_3) ?_; refine vk (vldp ga_Ars) ?_; refine vk (vfa gF_Itm_3) ?_; refine vk (vldp ga_Ars) ?_
              obtain ⟨x4, hx4, hz⟩ := bnd hz
              refine vk (vcl0 (slices_EqualFunc_api_Array_api_Array_api_Array_api_Array_ok (FWOK Tryz.call37 (fun _ _ h => orc_array_equal _ _ _ h)) hx4) Tryz.call113) ?_; refine vk (vpkd) ?_; refine asd ?_; refine RL.gh (Gh.keep [4] rfl) ?_; refine .nil ?_
              cases hz
              exact jr () trivial
            replace hz := ite_f hc hz
            have hb3 : x3 = false := (bf hc)
            refine vk (VOK.lit (vmvd) hb3) ?_; refine gf ?_; refine gf ?_; refine gf ?_; refine gf ?_; refine gf ?_; refine vk (vpkd) ?_; refine asd ?_; refine RL.gh (Gh.keep [4] rfl) ?_; refine .nil ?_
            cases hz
            exact jr () trivial
          replace hz := ite_f hc hz
          have hb2 : x2 = false := (bf hc)
          refine vk (VOK.lit (vmvd) hb2) ?_; refine gf ?_; refine gf ?_; refine gf ?_; refine gf ?_; refine gf ?_; refine gf ?_; refine gf ?_; refine vk (vpkd) ?_; refine vk (vmvd) ?_; refine gf ?_; refine gf ?_; refine gf ?_; refine gf ?_; refine gf ?_; refine vk (vpkd) ?_; refine asd ?_; refine RL.gh (Gh.keep [4] rfl) ?_; refine .nil ?_
          cases hz
          exact jr () trivial
        replace hz := ite_f hc hz
        have hb1 : (a0.num.1 == a1.num.1) = false := (bf hc)
        refine vk (VOK.lit (vmvd) hb1) ?_; refine gf ?_; refine gf ?_; refine gf ?_; refine gf ?_; refine gf ?_; refine gf ?_; refine gf ?_; refine vk (vpkd) ?_; refine vk (vmvd) ?_; refine gf ?_; refine gf ?_; refine gf ?_; refine gf ?_; refine gf ?_; refine gf ?_; refine gf ?_; refine vk (vpkd) ?_; refine vk (vmvd) ?_; refine gf ?_; refine gf ?_; refine gf ?_; refine gf ?_; refine gf ?_; refine vk (vpkd) ?_; refine asd ?_; refine RL.gh (Gh.keep [4] rfl) ?_; refine .nil ?_
        cases hz
        exact jr () trivial
      replace hz := ite_f hc hz
      have hb0 : (decide (a0.char = a1.char)) = false := (decide_eq_false hc)
      refine vk (VOK.lit (vmvd) hb0) ?_; refine gf ?_; refine gf ?_; refine gf ?_; refine gf ?_; refine gf ?_; refine gf ?_; refine gf ?_; refine vk (vpkd) ?_; refine vk (vmvd) ?_; refine gf ?_; refine gf ?_; refine gf ?_; refine gf ?_; refine gf ?_; refine gf ?_; refine gf ?_; refine vk (vpkd) ?_; refine vk (vmvd) ?_; refine gf ?_; refine gf ?_; refine gf ?_; refine gf ?_; refine gf ?_; refine gf ?_; refine gf ?_; refine vk (vpkd) ?_; refine vk (vmvd) ?_; refine gf ?_; refine gf ?_; refine gf ?_; refine gf ?_; refine gf ?_; refine vk (vpkd) ?_; refine asd ?_; refine RL.gh (Gh.keep [4] rfl) ?_; refine .nil ?_
      cases hz
      exact jr () trivial
    rintro _ _
    refine .ret ?_
    cases h
    exact ⟨rfl, rfl⟩
  replace h := ite_f hc h
  refine cnf (decide_eq_false hc) ?_; refine .skip ?_
  show AW _ _ _ _ _ _
  refine .seq ?_; refine .region ?_; refine asd ?_; refine rn ?_; refine .gh (Gh.keep [4] rfl) ?_; refine .ret ?_
  cases h
  exact ⟨rfl, rfl⟩

def ar_equalB (rc_array_equal : Arr → Arr → Option (Bool)) (a0 : Arr) (a1 : Arr) : Option (Bool) := ((slices_Equal_int_int a0.shape a1.shape).bind fun x1 => (Option.bind ((if x1 = true then ((slices_EqualFunc_api_Item_api_Item_api_Item_api_Item a0.items a1.items (⟨.fn 111 [] [], fun x => ar_equal1 rc_array_equal x.1 x.2⟩ : FT_Itm_Itm__bool)).bind fun x3 => (some x3)) else (some false)) : Option (Bool)) fun (z1 : Bool) => (some (z1))))
theorem ar_equalB_ok {rc_array_equal : Arr → Arr → Option (Bool)} (orc_array_equal : ∀ x0 x1 r, rc_array_equal x0 x1 = some r → Fn Tryz.prog 37 [.ag [.sl (Is x0.shape), .sl (Its x0.items)], .ag [.sl (Is x1.shape), .sl (Its x1.items)]] (.d (.b r))) {a0 : Arr} {a1 : Arr} {r : Bool} (h : ar_equalB rc_array_equal a0 a1 = some r) :
    Fn Tryz.prog 37 [.ag [.sl (Is a0.shape), .sl (Its a0.items)], .ag [.sl (Is a1.shape), .sl (Its a1.items)]] (.d (.b r)) := by
  unfold ar_equalB at h
  refine Fn.of (rs := [.tmp 4]) (nt := 17) Tryz.func37 rfl rfl rfl (by simp) rfl ?_; refine .seq ?_; refine .region ?_; refine vk (vbx) ?_; refine vk (vbx) ?_; refine asd ?_; refine rn ?_; refine .gh (Gh.keep [2, 3, 4] rfl) ?_; refine .seq ?_
  obtain ⟨x1, hx1, h⟩ := bnd h
  obtain ⟨z1, hz, h⟩ := bnd h
  refine AW.mr (σ := Unit) (fun _ => True) (fun _ => [(4, .d (.b z1))]) (fun _ => []) ?_ ?_
  · skip
    refine .region ?_; refine vk (vfa gF_Arr_0) ?_; refine vk (vldp ga_Is) ?_; refine vk (vfa gF_Arr_0) ?_; refine vk (vldp ga_Is) ?_; refine vk (vcl0 (slices_Equal_int_int_ok hx1) Tryz.call109) ?_
    by_cases hc : x1 = true
    · replace hz := ite_t hc hz
      have hb0 : x1 = true := hc
      refine vk (VOK.lit (vmvd) hb0) ?_; refine vk (vfa gF_Arr_1) ?_; refine vk (vldp ga_Its) ?_; refine vk (vfa gF_Arr_1) ?_; refine vk (vldp ga_Its) ?_
      obtain ⟨x3, hx3, hz⟩ := bnd hz
      refine vk (vcl0 (slices_EqualFunc_api_Item_api_Item_api_Item_api_Item_ok (FWOK Tryz.call111 (fun _ _ h => ar_equal1_ok orc_array_equal h)) hx3) Tryz.call110) ?_; refine vk (vpkd) ?_; refine asd ?_; refine RL.gh (Gh.keep [4] rfl) ?_; refine .nil ?_
      cases hz
      exact jr () trivial
    replace hz := ite_f hc hz
    have hb0 : x1 = false := (bf hc)
    refine vk (VOK.lit (vmvd) hb0) ?_; refine gf ?_; refine gf ?_; refine gf ?_; refine gf ?_; refine gf ?_; refine vk (vpkd) ?_; refine asd ?_; refine RL.gh (Gh.keep [4] rfl) ?_; refine .nil ?_
    cases hz
    exact jr () trivial
  rintro _ _
  refine .ret ?_
  cases h
  exact ⟨rfl, rfl⟩

def ar_equal_r : Nat → Arr → Arr → Option (Bool)
  | 0, _, _ => none
  | k + 1, a0, a1 => ar_equalB (ar_equal_r k) a0 a1
theorem ar_equal_r_ok : ∀ (k : Nat) (a0 : Arr) (a1 : Arr) (r : Bool), ar_equal_r k a0 a1 = some r → Fn Tryz.prog 37 [.ag [.sl (Is a0.shape), .sl (Its a0.items)], .ag [.sl (Is a1.shape), .sl (Its a1.items)]] (.d (.b r))
  | 0, _, _, _, h => by cases h
  | k + 1, a0, a1, _, h => ar_equalB_ok (ar_equal_r_ok k) (show ar_equalB (ar_equal_r k) a0 a1 = some _ from h)
def ar_equal (a0 : Arr) (a1 : Arr) : Option (Bool) := ar_equal_r (a0.size + 1) a0 a1
theorem ar_equal_ok {a0 : Arr} {a1 : Arr} {r : Bool} (h : ar_equal a0 a1 = some r) : Fn Tryz.prog 37 [.ag [.sl (Is a0.shape), .sl (Its a0.items)], .ag [.sl (Is a1.shape), .sl (Its a1.items)]] (.d (.b r)) := ar_equal_r_ok _ a0 a1 r h
end Go.FL
/-
  Plain laws, rat 1: right numbers are the rationals that fit.
-/
namespace Go.FL
open Go Go.Proofs

abbrev sg (b : Bool) (n : Nat) : Int := if b = true then -(n : Int) else n
def ofQ (p : Rat) : RT := (decide (p.num < 0), digs p.num.natAbs, digs p.den)
def small (n : Nat) : Prop := (digs n).length ≤ 32
instance (n : Nat) : Decidable (small n) := inferInstanceAs (Decidable (_ ≤ _))
def fits (p : Rat) : Prop := small p.num.natAbs ∧ small p.den
instance (p : Rat) : Decidable (fits p) := inferInstanceAs (Decidable (_ ∧ _))
theorem sg_natAbs (b : Bool) (n : Nat) : (sg b n).natAbs = n := by cases b <;> simp [sg]
theorem sg_neg (b : Bool) (n : Nat) : decide (sg b n < 0) = (b && decide (n ≠ 0)) := by
  cases b with
  | false => simp [sg]
  | true => simp only [sg, if_true, Bool.true_and]; apply decide_eq_decide.2; omega
abbrev q3 (p : Rat) : Q3 := (decide (p.num < 0), p.num.natAbs, p.den)
theorem right_iff {r : RT} : rightR r = true ↔ ∃ p, fits p ∧ r = ofQ p := by
  obtain ⟨b, n, d⟩ := r
  simp only [rightR, rightL, decide_eq_true_eq]
  constructor
  · rintro ⟨h1, h2, h3, h4, h5, h6, h7⟩
    have hd0 : val d ≠ 0 := fun h => h5 (by rw [← h2, h, digs_zero])
    refine ⟨⟨sg b (val n), val d, hd0, by rw [Nat.Coprime, sg_natAbs]; exact h7⟩, ⟨?_, ?_⟩, ?_⟩
    · show small (sg b (val n)).natAbs
      rw [sg_natAbs, small, h1]; exact h3
    · show small (val d)
      rw [small, h2]; exact h4
    · simp only [ofQ, sg_natAbs, h1, h2]
      rw [sg_neg]
      congr 1
      cases b with
      | false => rfl
      | true =>
        have : n ≠ [] := fun h => by have := h6 h; cases this
        have hn0 : val n ≠ 0 := fun h => this (by rw [← h1, h, digs_zero])
        simp [hn0]
  · rintro ⟨p, ⟨h1, h2⟩, h⟩
    simp only [ofQ, Prod.mk.injEq] at h
    obtain ⟨rfl, rfl, rfl⟩ := h
    refine ⟨by rw [val_digs], by rw [val_digs], h1, h2, ?_, ?_, ?_⟩
    · intro h
      have := digs_nil_iff.1 h
      exact p.den_nz this
    · intro h
      have := digs_nil_iff.1 h
      exact decide_eq_false (by omega)
    · rw [val_digs, val_digs]; exact p.reduced
theorem ofQ_right {p : Rat} (h : fits p) : rightR (ofQ p) = true := right_iff.2 ⟨p, h, rfl⟩
theorem okL_digs {k n : Nat} (h : (digs n).length ≤ k) : okL k (digs n) = true := okL_iff.2 ⟨digs_ok n, h⟩
theorem small_ok {k n : Nat} (h : small n) (hk : 32 ≤ k) : okL k (digs n) = true := okL_digs (Nat.le_trans h hk)
theorem ofQ_okRB {p : Rat} (h : fits p) : okRB (ofQ p) = true := by
  simp only [okRB, Bool.and_eq_true]
  exact ⟨small_ok h.1 (by decide), small_ok h.2 (by decide)⟩
theorem right_cases {r : RT} : rightR r = false ∨ ∃ p, fits p ∧ r = ofQ p := by
  by_cases h : rightR r = true
  · exact .inr (right_iff.1 h)
  · exact .inl (by simpa using h)
theorem one_digs : digs 1 = [1] := one_limb (n := 1) (by decide) (by decide)
abbrev valQ (q : Q3) : Rat := mkRat (sg q.1 q.2.1) q.2.2
theorem plusN_rat {x y : Q3} (hx : x.2.2 ≠ 0) (hy : y.2.2 ≠ 0) : valQ (plusN x y) = valQ x + valQ y ∧ (plusN x y).2.2 ≠ 0 := by
  obtain ⟨b, n, d⟩ := x
  obtain ⟨c, m, e⟩ := y
  simp only at hx hy
  have hde : d * e ≠ 0 := Nat.mul_ne_zero hx hy
  rw [show valQ (b, n, d) + valQ (c, m, e) = mkRat (sg b n * e + sg c m * d) (d * e) from Rat.mkRat_add_mkRat _ _ hx hy]
  have key : ∀ (q : Q3), q.2.2 = d * e → sg q.1 q.2.1 = sg b n * e + sg c m * d → valQ q = mkRat (sg b n * e + sg c m * d) (d * e) ∧ q.2.2 ≠ 0 := fun q h1 h2 => by
    rw [valQ, h1, h2]; exact ⟨rfl, hde⟩
  unfold plusN
  simp only
  split
  · rename_i h
    subst h
    refine key _ rfl ?_
    cases b <;> simp [sg]
    rw [Int.neg_add, Int.neg_mul, Int.neg_mul]
  · rename_i h
    split
    · rename_i h2
      refine key _ rfl ?_
      cases b <;> cases c <;> simp [sg] at h ⊢
      · rw [Int.ofNat_sub h2]; simp [Int.neg_mul]; omega
      · rw [Int.ofNat_sub h2]; simp [Int.neg_mul]; omega
    · rename_i h2
      have h3 : n * e ≤ m * d := by omega
      refine key _ rfl ?_
      cases b <;> cases c <;> simp [sg] at h ⊢
      · rw [Int.ofNat_sub h3]; simp [Int.neg_mul]; omega
      · rw [Int.ofNat_sub h3]; simp [Int.neg_mul]; omega
theorem timesN_rat {x y : Q3} (hx : x.2.2 ≠ 0) (hy : y.2.2 ≠ 0) : valQ (timesN x y) = valQ x * valQ y ∧ (timesN x y).2.2 ≠ 0 := by
  obtain ⟨b, n, d⟩ := x
  obtain ⟨c, m, e⟩ := y
  refine ⟨?_, Nat.mul_ne_zero hx hy⟩
  rw [show valQ (b, n, d) * valQ (c, m, e) = mkRat (sg b n * sg c m) (d * e) from Rat.mkRat_mul_mkRat _ _ _ _]
  have h : sg (b != c) (n * m) = sg b n * sg c m := by cases b <;> cases c <;> simp [sg, Int.neg_mul, Int.mul_neg]
  simp only [timesN, valQ, h]
theorem valQ_of (p : Rat) : valQ (decide (p.num < 0), p.num.natAbs, p.den) = p := by
  have : sg (decide (p.num < 0)) p.num.natAbs = p.num := by
    simp only [sg, decide_eq_true_eq]
    split <;> omega
  rw [valQ, this, Rat.mkRat_self]
end Go.FL
