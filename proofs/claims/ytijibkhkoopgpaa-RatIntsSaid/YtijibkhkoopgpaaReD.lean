/-
  Part 4 of the base of the proofs: a logic of our own over the calculus, the contracts of the functions
-/
import Derived.Test.YtijibkhkoopgpaaReC
set_option linter.unusedVariables false
/-
  rat: one, of, cross, lowest, Make.
-/
namespace Go.FL
open Go Go.Proofs

theorem LL_flat (ls : List (List Nat)) : ∀ d ∈ LL ls, d.flat = true ∧ d.cells.length = 1 := by
  intro d hd
  simp only [LL, List.mem_map] at hd
  obtain ⟨n, _, rfl⟩ := hd
  exact ⟨rfl, rfl⟩
theorem noBpL_d : ∀ vs : List DV, noBpL (vs.map .d) = true
  | [] => rfl
  | v :: vs => by simp only [List.map_cons, noBpL, noBp, noBpL_d vs, Bool.and_self]
theorem noBp_d (vs : List DV) : noBp (.tup (vs.map .d)) = true := by simp only [noBp, noBpL_d vs]
theorem L_flat (l : List Nat) : ∀ d ∈ L l, d.flat = true ∧ d.cells.length = 1 := by
  intro d hd
  simp only [L, List.mem_map] at hd
  obtain ⟨n, _, rfl⟩ := hd
  exact ⟨rfl, rfl⟩

theorem one_fn : Fn Try.prog 66 [] (.own 65 (L [1])) := by
  refine Fn.of (rs := [.tmp 0]) (nt := 2) Try.func66 rfl rfl rfl (by simp) rfl ?_
  refine .seq ?_
  refine .region ?_
  refine asn ?_
  refine rn ?_
  refine .seq ?_
  refine .region ?_
  refine bsl ?_ ?_ e32
  · simp [DV.flat, DV.cells, DV.leaf]
  refine aso ?_
  refine rn ?_
  refine .ret ?_
  exact ⟨rfl, rfl⟩

theorem of_fn (b : Bool) (n d : List Nat) : Fn Try.prog 90 [Rv b n d] (.d (Nv b n d)) := by
  refine Fn.ofC (rs := [.cell 2 58]) (nt := 11) Try.func90 rfl rfl rfl (by simp) rfl ?_
  refine .seq ?_
  refine .region ?_
  refine vk vbx ?_
  refine vk (van (zero_of iN) rN) ?_
  refine rn ?_
  refine .seq ?_
  refine .region ?_
  refine vk (vfa fR1) ?_
  refine ldp ?_ aS
  refine vk (vfa fR2) ?_
  refine ldp ?_ aS
  refine vk (vbd pZ iZ rZ) ?_
  refine vk (vfa fR0) ?_
  refine ldp ?_ aB
  refine vk (vbd pN iN rN) ?_
  refine stn ?_ sN (by decide)
  refine rn ?_
  refine .ret ?_
  exact ⟨_, ⟨.inr rfl, aN, sN, (by decide : (0 : Nat) < 3)⟩, rfl⟩

theorem cross_fn {n d m e : List Nat} (hn : Ok n) (he : Ok e) (hln : n.length ≤ 4000) (hle : e.length ≤ 4000) : Fn Try.prog 93 [Zv n d, Zv m e] (.d (.sl (L (digs (val n * val e))))) := by
  have p1 := prods_fn (M := 4000) (ls := [n, e]) (by simp [hn, he]) (by simp [hln, hle]) (by simp) (by decide)
  rw [show prodF [n, e] 1 = val n * val e by show 1 * val n * val e = _; rw [Nat.one_mul]] at p1
  refine Fn.of (rs := [.tmp 4]) (nt := 11) Try.func93 rfl rfl rfl (by simp) rfl ?_
  refine .seq ?_
  refine .region ?_
  refine vk vbx ?_
  refine vk vbx ?_
  refine asn ?_
  refine rn ?_
  refine .seq ?_
  refine .region ?_
  refine vk (vfa fZ0) ?_
  refine ldp ?_ aS
  refine vk (vfa fZ1) ?_
  refine ldp ?_ aS
  refine bsl ?_ ?_ e2
  · simp [DV.flat, DV.cells, DV.leaf]
  refine fz (p := .t 9) ?_
  refine cl (xs := [.sl (LL [n, e])]) ?_ p1 Try.call73
  refine asd ?_
  refine rn ?_
  refine .ret ?_
  exact ⟨rfl, rfl⟩

/-- In lowest terms, or an error: what (number).lowest gives. -/
def lowN (b : Bool) (n d : Nat) : List DV :=
  if Nat.gcd n d = 0 then [Rv false [] [], .i .i64 22]
  else if 32 < (digs (n / Nat.gcd n d)).length ∨ 32 < (digs (d / Nat.gcd n d)).length then [Rv false [] [], .i .i64 8]
  else [Rv (b && decide (n / Nat.gcd n d ≠ 0)) (digs (n / Nat.gcd n d)) (digs (d / Nat.gcd n d)), .i .i64 0]
theorem pos_digs {n : Nat} : decide ((0 : Int) < ((L (digs n)).length : Nat)) = decide (n ≠ 0) := by
  by_cases h : n = 0
  · subst h; rw [digs_zero]; rfl
  · have := digs_ne (m := n) (by omega)
    rw [decide_eq_true h, decide_eq_true (by rw [L_length]; omega)]

theorem lowest_fn {M : Nat} {b : Bool} {n d : List Nat} (hn : Ok n) (hd : Ok d) (hln : n.length ≤ M) (hld : d.length ≤ M) (hM : M ≤ 100000) : Fn Try.prog 60 [Nv b n d] (.tup ((lowN b (val n) (val d)).map .d)) := by
  have g1 := Gcd_fn (M := M) (ls := [n, d]) (by simp [hn, hd]) (by simp [hln, hld]) (by simp) (by omega)
  rw [show gcdF [n, d] = Nat.gcd (val n) (val d) by show Nat.gcd (Nat.gcd 0 (val n)) (val d) = _; rw [Nat.gcd_zero_left]] at g1
  have lg : (digs (Nat.gcd (val n) (val d))).length ≤ M := digs_len (gcd_lt (Nat.lt_of_lt_of_le (val_lt hn) (Nat.pow_le_pow_right (by decide) hln)) (Nat.lt_of_lt_of_le (val_lt hd) (Nat.pow_le_pow_right (by decide) hld)))
  unfold lowN
  generalize Nat.gcd (val n) (val d) = g at *
  have d1 := DivMod_fn (a := n) (b := digs g) hn (digs_ok g) (by omega) (by omega)
  have d2 := DivMod_fn (a := d) (b := digs g) hd (digs_ok g) (by omega) (by omega)
  rw [val_digs] at d1 d2
  generalize remN (val n) g = r1 at *
  generalize remN (val d) g = r2 at *
  generalize val n / g = x at *
  generalize val d / g = y at *
  refine Fn.ofC (rs := [.cell 2 25, .tmp 3]) (nt := 61) Try.func60 rfl rfl rfl (by simp) (noBp_d _) ?_
  refine .seq ?_
  refine .region ?_
  refine vk vbx ?_
  refine vk (van (zero_of iR) rR) ?_
  refine asd ?_
  refine rn ?_
  refine .seq ?_
  refine .region ?_
  refine vk (vfa fN0) ?_
  refine vk (vfa fZ0) ?_
  refine ldp ?_ aS
  refine vk (vfa fN0) ?_
  refine vk (vfa fZ1) ?_
  refine ldp ?_ aS
  refine bsl ?_ ?_ e2
  · simp [DV.flat, DV.cells, DV.leaf]
  refine fz (p := .t 17) ?_
  refine cl (xs := [.sl (LL [n, d])]) ?_ g1 Try.call65
  refine asd ?_
  refine rn ?_
  refine .gh (Gh.keep [1, 2, 3, 4] rfl) ?_
  refine .seq ?_
  refine .region ?_
  refine vk (vfa fN0) ?_
  refine vk (vfa fZ0) ?_
  refine ldp ?_ aS
  refine mvd ?_
  refine cl (xs := [.sl (L n), .sl (L (digs g))]) ?_ d1 Try.call104
  refine mvt ?_
  refine ex ?_
  refine ex ?_
  refine ex ?_
  refine asd ?_
  refine asd ?_
  refine asd ?_
  refine rn ?_
  refine .gh (Gh.keep [1, 2, 3, 4, 5, 7] rfl) ?_
  refine .seq ?_
  refine .region ?_
  refine vk (vfa fN0) ?_
  refine vk (vfa fZ1) ?_
  refine ldp ?_ aS
  refine mvd ?_
  refine cl (xs := [.sl (L d), .sl (L (digs g))]) ?_ d2 Try.call104
  refine mvt ?_
  refine ex ?_
  refine ex ?_
  refine ex ?_
  refine asd ?_
  refine asd ?_
  refine asd ?_
  refine rn ?_
  refine .gh (Gh.keep [1, 2, 3, 5, 7, 8] rfl) ?_
  refine .seq ?_
  refine .block ?_
  refine .seq ?_
  refine .region ?_
  refine mvd ?_
  refine nt_ ?_
  refine asd ?_
  refine rn ?_
  by_cases hg : g = 0
  · rw [decide_eq_false (show ¬ (g ≠ 0) from fun h => h hg), if_pos hg]
    refine cndt ?_
    refine .seq ?_
    refine .region ?_
    refine vk (vbd pR iR rR) ?_
    refine stn ?_ sR (by decide)
    refine asd ?_
    refine rn ?_
    refine .ret ?_
    exact ⟨_, _, ⟨.inr rfl, aR, sR, (by decide : (0 : Nat) < 3)⟩, rfl, rfl⟩
  rw [decide_eq_true (show g ≠ 0 from hg), if_neg hg]
  refine cndf ?_
  refine .seq ?_
  refine .region ?_
  refine mvd ?_
  refine ln ?_ (L_sz _) l32
  refine bi ?_
  by_cases hx : 32 < (digs x).length
  · rw [decide_eq_true (show (32 : Int) < ((L (digs x)).length : Nat) by rw [L_length]; omega), if_pos (.inl hx)]
    refine mvd ?_
    refine gf ?_
    refine gf ?_
    refine gf ?_
    refine pkd ?_
    refine asd ?_
    refine rn ?_
    refine cndt ?_
    refine .seq ?_
    refine .region ?_
    refine vk (vbd pR iR rR) ?_
    refine stn ?_ sR (by decide)
    refine asd ?_
    refine rn ?_
    refine .ret ?_
    exact ⟨_, _, ⟨.inr rfl, aR, sR, (by decide : (0 : Nat) < 3)⟩, rfl, rfl⟩
  rw [decide_eq_false (show ¬ (32 : Int) < ((L (digs x)).length : Nat) by rw [L_length]; omega)]
  refine mvd ?_
  refine mvd ?_
  refine ln ?_ (L_sz _) l32
  refine bi ?_
  by_cases hy : 32 < (digs y).length
  · rw [decide_eq_true (show (32 : Int) < ((L (digs y)).length : Nat) by rw [L_length]; omega), if_pos (.inr hy)]
    refine pkd ?_
    refine asd ?_
    refine rn ?_
    refine cndt ?_
    refine .seq ?_
    refine .region ?_
    refine vk (vbd pR iR rR) ?_
    refine stn ?_ sR (by decide)
    refine asd ?_
    refine rn ?_
    refine .ret ?_
    exact ⟨_, _, ⟨.inr rfl, aR, sR, (by decide : (0 : Nat) < 3)⟩, rfl, rfl⟩
  rw [decide_eq_false (show ¬ (32 : Int) < ((L (digs y)).length : Nat) by rw [L_length]; omega), if_neg (by omega)]
  refine pkd ?_
  refine asd ?_
  refine rn ?_
  refine cndf ?_
  refine .skip ?_
  show AW _ _ _ _ _ _
  refine .seq ?_
  refine .region ?_
  refine vk (vfa fN1) ?_
  refine ldp ?_ aB
  refine mvd ?_
  by_cases hb : b = true
  · subst hb
    refine mvd ?_
    refine ln ?_ (L_sz _) l32
    refine bi ?_
    rw [pos_digs]
    refine pkd ?_
    refine mvd ?_
    refine mvd ?_
    refine vk (vbd pR iR rR) ?_
    refine stn ?_ sR (by decide)
    refine asd ?_
    refine rn ?_
    refine .ret ?_
    exact ⟨_, _, ⟨.inr rfl, aR, sR, (by decide : (0 : Nat) < 3)⟩, rfl, rfl⟩
  rw [Bool.not_eq_true] at hb; subst hb
  refine gf ?_
  refine gf ?_
  refine gf ?_
  refine pkd ?_
  refine mvd ?_
  refine mvd ?_
  refine vk (vbd pR iR rR) ?_
  refine stn ?_ sR (by decide)
  refine asd ?_
  refine rn ?_
  refine .ret ?_
  exact ⟨_, _, ⟨.inr rfl, aR, sR, (by decide : (0 : Nat) < 3)⟩, rfl, rfl⟩
end Go.FL
/-
  rat, glyphref02: Right; slices.Equal, IndexFunc, ContainsFunc; right.
-/
namespace Go.FL
open Go Go.Proofs

theorem slR : sliceT Try.prog 50 = some (25, 3, 56) := by kernel_rfl
theorem lR : Try.prog.underlying 50 = some (.slice (Try.prog.elem 50)) := by kernel_rfl

theorem refOne_fn : Fn Try.prog 69 [] (.own 65 (L [1])) := by
  refine Fn.of (rs := [.tmp 0]) (nt := 2) Try.func69 rfl rfl rfl (by simp) rfl ?_
  refine .seq ?_
  refine .region ?_
  refine asn ?_
  refine rn ?_
  refine .seq ?_
  refine .region ?_
  refine bsl ?_ ?_ e32
  · simp [DV.flat, DV.cells, DV.leaf]
  refine aso ?_
  refine rn ?_
  refine .ret ?_
  exact ⟨rfl, rfl⟩

theorem Equal_fn (a b : List Nat) (hla : a.length ≤ 1048576) (hoa : Ok a) (hob : Ok b) : Fn Try.prog 64 [.sl (L a), .sl (L b)] (.d (.b (decide (a = b)))) := by
  refine Fn.of (rs := [.tmp 4]) (nt := 26) Try.func64 rfl rfl rfl (by simp) rfl ?_
  refine .seq ?_
  refine .region ?_
  refine asd ?_
  refine rn ?_
  refine .seq ?_
  refine .seq ?_
  refine .region ?_
  refine mvd ?_
  refine ln ?_ (L_sz _) l32
  refine mvd ?_
  refine ln ?_ (L_sz _) l32
  refine bi ?_
  refine rn ?_
  by_cases hlen : a.length ≠ b.length
  · rw [decide_eq_false (show ¬ (((L a).length : Nat) : Int) = ((L b).length : Nat) by rw [L_length, L_length]; omega)]
    refine cndt ?_
    refine .seq ?_
    refine .region ?_
    refine asd ?_
    refine rn ?_
    refine .ret ?_
    exact ⟨by rw [decide_eq_false (fun h => hlen (by rw [h]))]; rfl, rfl⟩
  rw [decide_eq_true (show (((L a).length : Nat) : Int) = ((L b).length : Nat) by rw [L_length, L_length]; omega)]
  refine cndf ?_
  refine .skip ?_
  show AW _ _ _ _ _ _
  refine .seq ?_
  refine .seq ?_
  refine .region ?_
  refine mvd ?_
  refine ln ?_ (L_sz _) l32
  refine mvd ?_
  refine rn ?_
  refine .block ?_
  refine .loop (.gh (Gh.keep [0, 1, 11, 12, 13] rfl) ?_)
  refine AL.ind (σ := Nat) (m := fun i => a.length - i) (e := fun i => [(0, .d (.sl (L a))), (1, .d (.sl (L b))), (11, .d (.sl (L a))), (12, .d (.i .i64 ((L a).length : Nat))), (13, .d (.i .i64 (i : Int)))]) (h := fun _ => [])
    (I := fun i => i ≤ a.length ∧ a.take i = b.take i) ?_ 0 ⟨Nat.zero_le _, rfl⟩
  rintro i ⟨h1, h2⟩ ih
  refine .seq ?_
  refine .region ?_
  refine bi ?_
  refine rn ?_
  refine .seq ?_
  by_cases hi : i < a.length
  · rw [decide_eq_true (show (i : Int) < ((L a).length : Nat) by rw [L_length]; omega)]
    have hx : a[i]? = some a[i] := List.getElem?_eq_getElem hi
    have hy : b[i]? = some b[i] := List.getElem?_eq_getElem (by omega)
    have hdx : a.take (i + 1) = a.take i ++ [a[i]] := List.take_succ_eq_append_getElem hi
    have hdy : b.take (i + 1) = b.take i ++ [b[i]] := List.take_succ_eq_append_getElem (by omega)
    generalize a[i] = x at hx hdx
    generalize b[i] = y at hy hdy
    refine cndt ?_
    refine .skip ?_
    show AW _ _ _ _ _ _
    refine .seq ?_
    refine .block ?_
    refine .seq ?_
    refine .region ?_
    refine mvd ?_
    refine asd ?_
    refine rn ?_
    refine .seq ?_
    refine .drawn 9 mixed (by kernel_rfl) ?_
    refine dv vmvd ?_
    refine dv vmvd ?_
    refine dv (vix i rfl (L_at hx) rfl s32) ?_
    refine dv (vldp a32) ?_
    refine dv vmvd ?_
    refine dv vmvd ?_
    refine dv (vix i rfl (L_at hy) rfl s32) ?_
    refine dv (vldp a32) ?_
    refine dv vbi ?_
    refine dz ?_
    refine rn ?_
    by_cases hxy : x ≠ y
    · rw [decide_eq_false (show ¬ (x : Int) = (y : Int) by omega)]
      refine cndt ?_
      refine .seq ?_
      refine .region ?_
      refine asd ?_
      refine rn ?_
      refine .ret ?_
      exact ⟨by rw [decide_eq_false (fun h => hxy (by rw [h] at hx; rw [hx] at hy; exact Option.some.inj hy))]; rfl, rfl⟩
    rw [decide_eq_true (show (x : Int) = (y : Int) by omega)]
    refine cndf ?_
    refine .skip ?_
    show AW _ _ _ _ _ _
    refine .region ?_
    refine ad ((i + 1 : Nat) : Int) ?_ ?_
    · omega
    refine mvd ?_
    refine .nil ?_
    refine AL.gh (Gh.keep [0, 1, 11, 12, 13] rfl) ?_
    exact ih (i + 1) ⟨by omega, by rw [hdx, hdy, h2]; congr 2; omega⟩ (by omega)
  rw [decide_eq_false (show ¬ (i : Int) < ((L a).length : Nat) by rw [L_length]; omega)]
  refine cndf ?_
  refine .exit ?_
  show AW _ _ _ _ _ _
  refine .seq ?_
  refine .region ?_
  refine asd ?_
  refine rn ?_
  refine .ret ?_
  rw [List.take_of_length_le (by omega), List.take_of_length_le (by omega)] at h2
  exact ⟨by rw [decide_eq_true h2]; rfl, rfl⟩

/-- A number in lowest terms, and not too great. -/
def RightP (b : Bool) (n d : List Nat) : Prop := digs (val n) = n ∧ digs (val d) = d ∧ n.length ≤ 32 ∧ d.length ≤ 32 ∧ d ≠ [] ∧ (n = [] → b = false) ∧ Nat.gcd (val n) (val d) = 1
instance (b : Bool) (n d : List Nat) : Decidable (RightP b n d) := by unfold RightP; infer_instance
def rightL (b : Bool) (n d : List Nat) : Bool := decide (RightP b n d)
theorem right_f {b : Bool} {n d : List Nat} (h : ¬ RightP b n d) : rightL b n d = false := decide_eq_false h
theorem digs_one_iff {g : Nat} : digs g = [1] ↔ g = 1 := by
  have one : digs 1 = [1] := one_limb (n := 1) (by decide) (by decide)
  constructor
  · intro h
    have := val_digs g
    rw [h] at this
    simpa [val] using this.symm
  · rintro rfl; exact one
theorem ne_nil_pos {l : List Nat} : l ≠ [] ↔ 0 < l.length := by
  cases l <;> simp

theorem RRight_fn {b : Bool} {n d : List Nat} (hn : Ok n) (hd : Ok d) (hln : n.length ≤ 35184372087808) (hld : d.length ≤ 35184372087808) : Fn Try.prog 19 [Rv b n d] (.d (.b (rightL b n d))) := by
  refine Fn.of (rs := [.tmp 2]) (nt := 50) Try.func19 rfl rfl rfl (by simp) rfl ?_
  refine .seq ?_
  refine .region ?_
  refine vk vbx ?_
  refine asd ?_
  refine rn ?_
  refine .seq ?_
  refine .seq ?_
  refine .region ?_
  refine vk (vfa fR1) ?_
  refine ldp ?_ aS
  refine cl (xs := [.sl (L n)]) ?_ (Right_fn hn hln) Try.call37
  refine nt_ ?_
  by_cases h1 : ¬ digs (val n) = n
  · rw [decide_eq_false h1]
    refine mvd ?_
    refine gf ?_
    refine gf ?_
    refine gf ?_
    refine gf ?_
    refine pkd ?_
    refine mvd ?_
    refine gf ?_
    refine gf ?_
    refine gf ?_
    refine gf ?_
    refine pkd ?_
    refine mvd ?_
    refine gf ?_
    refine gf ?_
    refine gf ?_
    refine gf ?_
    refine pkd ?_
    refine rn ?_
    refine .gh (Gh.keep [1, 24] rfl) ?_
    refine cndt ?_
    refine .seq ?_
    refine .region ?_
    refine asd ?_
    refine rn ?_
    refine .ret ?_
    exact ⟨by rw [right_f (fun h => h1 h.1)]; rfl, rfl⟩
  rw [Decidable.not_not] at h1
  rw [decide_eq_true h1]
  refine mvd ?_
  refine vk (vfa fR2) ?_
  refine ldp ?_ aS
  refine cl (xs := [.sl (L d)]) ?_ (Right_fn hd hld) Try.call37
  refine nt_ ?_
  by_cases h2 : ¬ digs (val d) = d
  · rw [decide_eq_false h2]
    refine pkd ?_
    refine mvd ?_
    refine gf ?_
    refine gf ?_
    refine gf ?_
    refine gf ?_
    refine pkd ?_
    refine mvd ?_
    refine gf ?_
    refine gf ?_
    refine gf ?_
    refine gf ?_
    refine pkd ?_
    refine rn ?_
    refine .gh (Gh.keep [1, 24] rfl) ?_
    refine cndt ?_
    refine .seq ?_
    refine .region ?_
    refine asd ?_
    refine rn ?_
    refine .ret ?_
    exact ⟨by rw [right_f (fun h => h2 h.2.1)]; rfl, rfl⟩
  rw [Decidable.not_not] at h2
  rw [decide_eq_true h2]
  refine pkd ?_
  refine mvd ?_
  refine vk (vfa fR1) ?_
  refine ldp ?_ aS
  refine ln ?_ (L_sz _) l32
  refine bi ?_
  by_cases h3 : 32 < n.length
  · rw [decide_eq_true (show (32 : Int) < ((L n).length : Nat) by rw [L_length]; omega)]
    refine pkd ?_
    refine mvd ?_
    refine gf ?_
    refine gf ?_
    refine gf ?_
    refine gf ?_
    refine pkd ?_
    refine rn ?_
    refine .gh (Gh.keep [1, 24] rfl) ?_
    refine cndt ?_
    refine .seq ?_
    refine .region ?_
    refine asd ?_
    refine rn ?_
    refine .ret ?_
    exact ⟨by rw [right_f (fun h => by have := h.2.2.1; omega)]; rfl, rfl⟩
  rw [decide_eq_false (show ¬ (32 : Int) < ((L n).length : Nat) by rw [L_length]; omega)]
  refine pkd ?_
  refine mvd ?_
  refine vk (vfa fR2) ?_
  refine ldp ?_ aS
  refine ln ?_ (L_sz _) l32
  refine bi ?_
  by_cases h4 : 32 < d.length
  · rw [decide_eq_true (show (32 : Int) < ((L d).length : Nat) by rw [L_length]; omega)]
    refine pkd ?_
    refine rn ?_
    refine .gh (Gh.keep [1, 24] rfl) ?_
    refine cndt ?_
    refine .seq ?_
    refine .region ?_
    refine asd ?_
    refine rn ?_
    refine .ret ?_
    exact ⟨by rw [right_f (fun h => by have := h.2.2.2.1; omega)]; rfl, rfl⟩
  rw [decide_eq_false (show ¬ (32 : Int) < ((L d).length : Nat) by rw [L_length]; omega)]
  have g1 := Gcd_fn (M := 32) (ls := [n, d]) (by simp [hn, hd]) (by simp; omega) (by simp) (by decide)
  rw [show gcdF [n, d] = Nat.gcd (val n) (val d) by show Nat.gcd (Nat.gcd 0 (val n)) (val d) = _; rw [Nat.gcd_zero_left]] at g1
  have lg : (digs (Nat.gcd (val n) (val d))).length ≤ 32 := digs_len (gcd_lt (Nat.lt_of_lt_of_le (val_lt hn) (Nat.pow_le_pow_right (by decide) (by omega))) (Nat.lt_of_lt_of_le (val_lt hd) (Nat.pow_le_pow_right (by decide) (by omega))))
  have q1 := Equal_fn (digs (Nat.gcd (val n) (val d))) [1] (by omega) (digs_ok _) (by simp [Ok])
  rw [decide_eq_decide.2 digs_one_iff] at q1
  refine pkd ?_
  refine rn ?_
  refine .gh (Gh.keep [1, 24] rfl) ?_
  refine cndf ?_
  refine .skip ?_
  show AW _ _ _ _ _ _
  refine .seq ?_
  refine .region ?_
  refine vk (vfa fR2) ?_
  refine ldp ?_ aS
  refine ln ?_ (L_sz _) l32
  refine bi ?_
  by_cases h5 : 0 < d.length
  · rw [decide_eq_true (show (0 : Int) < ((L d).length : Nat) by rw [L_length]; omega)]
    refine mvd ?_
    refine vk (vfa fR1) ?_
    refine ldp ?_ aS
    refine ln ?_ (L_sz _) l32
    refine bi ?_
    by_cases h6 : 0 < n.length
    · rw [decide_eq_true (show (0 : Int) < ((L n).length : Nat) by rw [L_length]; omega)]
      refine mvd ?_
      refine gf ?_
      refine gf ?_
      refine gf ?_
      refine pkd ?_
      refine pkd ?_
      refine mvd ?_
      refine vk (vfa fR1) ?_
      refine ldp ?_ aS
      refine vk (vfa fR2) ?_
      refine ldp ?_ aS
      refine bsl ?_ ?_ e2
      · simp [DV.flat, DV.cells, DV.leaf]
      refine fz (p := .t 45) ?_
      refine cl (xs := [.sl (LL [n, d])]) ?_ g1 Try.call65
      refine cl (xs := []) ?_ one_fn Try.call66
      refine fz (p := .t 47) ?_
      refine cl (xs := [.sl (L (digs (Nat.gcd (val n) (val d)))), .sl (L [1])]) ?_ q1 Try.call64
      refine pkd ?_
      refine asd ?_
      refine rn ?_
      refine .ret ?_
      exact ⟨by rw [show rightL b n d = decide (Nat.gcd (val n) (val d) = 1) from decide_eq_decide.2 ⟨fun h => h.2.2.2.2.2.2, fun h => ⟨h1, h2, by omega, by omega, ne_nil_pos.2 h5, fun h0 => by rw [h0] at h6; simp at h6, h⟩⟩]; rfl, rfl⟩
    rw [decide_eq_false (show ¬ (0 : Int) < ((L n).length : Nat) by rw [L_length]; omega)]
    refine mvd ?_
    refine vk (vfa fR0) ?_
    refine ldp ?_ aB
    refine nt_ ?_
    by_cases h7 : b = false
    · subst h7
      refine pkd ?_
      refine pkd ?_
      refine mvd ?_
      refine vk (vfa fR1) ?_
      refine ldp ?_ aS
      refine vk (vfa fR2) ?_
      refine ldp ?_ aS
      refine bsl ?_ ?_ e2
      · simp [DV.flat, DV.cells, DV.leaf]
      refine fz (p := .t 45) ?_
      refine cl (xs := [.sl (LL [n, d])]) ?_ g1 Try.call65
      refine cl (xs := []) ?_ one_fn Try.call66
      refine fz (p := .t 47) ?_
      refine cl (xs := [.sl (L (digs (Nat.gcd (val n) (val d)))), .sl (L [1])]) ?_ q1 Try.call64
      refine pkd ?_
      refine asd ?_
      refine rn ?_
      refine .ret ?_
      exact ⟨by rw [show rightL false n d = decide (Nat.gcd (val n) (val d) = 1) from decide_eq_decide.2 ⟨fun h => h.2.2.2.2.2.2, fun h => ⟨h1, h2, by omega, by omega, ne_nil_pos.2 h5, fun _ => rfl, h⟩⟩]; rfl, rfl⟩
    rw [Bool.not_eq_false] at h7; subst h7
    refine pkd ?_
    refine pkd ?_
    refine mvd ?_
    refine gf ?_
    refine gf ?_
    refine gf ?_
    refine gf ?_
    refine gf ?_
    refine gf ?_
    refine gf ?_
    refine gf ?_
    refine pkd ?_
    refine asd ?_
    refine rn ?_
    refine .ret ?_
    exact ⟨by rw [right_f (fun h => by have := h.2.2.2.2.2.1 (List.length_eq_zero_iff.1 (by omega)); cases this)]; rfl, rfl⟩
  rw [decide_eq_false (show ¬ (0 : Int) < ((L d).length : Nat) by rw [L_length]; omega)]
  refine mvd ?_
  refine gf ?_
  refine gf ?_
  refine gf ?_
  refine gf ?_
  refine gfu ?_
  refine gfn ?_
  refine gfn ?_
  refine gfn ?_
  refine gf ?_
  refine pkd ?_
  refine mvd ?_
  refine gf ?_
  refine gf ?_
  refine gf ?_
  refine gf ?_
  refine gf ?_
  refine gf ?_
  refine gf ?_
  refine gf ?_
  refine pkd ?_
  refine asd ?_
  refine rn ?_
  refine .ret ?_
  exact ⟨by rw [right_f (fun h => h5 (ne_nil_pos.1 h.2.2.2.2.1))]; rfl, rfl⟩

theorem cmp_one {g : Nat} : (cmpN g 1 = 0) ↔ g = 1 := by
  unfold cmpN
  by_cases h : g < 1
  · rw [if_pos h]; omega
  · rw [if_neg h]; split <;> omega

theorem refRR_fn {b : Bool} {n d : List Nat} (hn : Ok n) (hd : Ok d) (hln : n.length ≤ 35184372087808) (hld : d.length ≤ 35184372087808) : Fn Try.prog 20 [Rv b n d] (.d (.b (rightL b n d))) := by
  refine Fn.of (rs := [.tmp 2]) (nt := 50) Try.func20 rfl rfl rfl (by simp) rfl ?_
  refine .seq ?_
  refine .region ?_
  refine vk vbx ?_
  refine asd ?_
  refine rn ?_
  refine .seq ?_
  refine .seq ?_
  refine .region ?_
  refine vk (vfa fR1) ?_
  refine ldp ?_ aS
  refine cl (xs := [.sl (L n)]) ?_ (refRight_fn hn hln) Try.call67
  refine nt_ ?_
  by_cases h1 : ¬ digs (val n) = n
  · rw [decide_eq_false h1]
    refine mvd ?_
    refine gf ?_
    refine gf ?_
    refine gf ?_
    refine gf ?_
    refine pkd ?_
    refine mvd ?_
    refine gf ?_
    refine gf ?_
    refine gf ?_
    refine gf ?_
    refine pkd ?_
    refine mvd ?_
    refine gf ?_
    refine gf ?_
    refine gf ?_
    refine gf ?_
    refine pkd ?_
    refine mvd ?_
    refine gf ?_
    refine gf ?_
    refine gf ?_
    refine gf ?_
    refine pkd ?_
    refine mvd ?_
    refine gf ?_
    refine gf ?_
    refine gf ?_
    refine gf ?_
    refine gfu ?_
    refine gfn ?_
    refine gfn ?_
    refine gf ?_
    refine pkd ?_
    refine rn ?_
    refine .gh (Gh.keep [1, 40] rfl) ?_
    refine cndt ?_
    refine .seq ?_
    refine .region ?_
    refine asd ?_
    refine rn ?_
    refine .ret ?_
    exact ⟨by rw [right_f (fun h => h1 h.1)]; rfl, rfl⟩
  rw [Decidable.not_not] at h1
  rw [decide_eq_true h1]
  refine mvd ?_
  refine vk (vfa fR2) ?_
  refine ldp ?_ aS
  refine cl (xs := [.sl (L d)]) ?_ (refRight_fn hd hld) Try.call67
  refine nt_ ?_
  by_cases h2 : ¬ digs (val d) = d
  · rw [decide_eq_false h2]
    refine pkd ?_
    refine mvd ?_
    refine gf ?_
    refine gf ?_
    refine gf ?_
    refine gf ?_
    refine pkd ?_
    refine mvd ?_
    refine gf ?_
    refine gf ?_
    refine gf ?_
    refine gf ?_
    refine pkd ?_
    refine mvd ?_
    refine gf ?_
    refine gf ?_
    refine gf ?_
    refine gf ?_
    refine pkd ?_
    refine mvd ?_
    refine gf ?_
    refine gf ?_
    refine gf ?_
    refine gf ?_
    refine gfu ?_
    refine gfn ?_
    refine gfn ?_
    refine gf ?_
    refine pkd ?_
    refine rn ?_
    refine .gh (Gh.keep [1, 40] rfl) ?_
    refine cndt ?_
    refine .seq ?_
    refine .region ?_
    refine asd ?_
    refine rn ?_
    refine .ret ?_
    exact ⟨by rw [right_f (fun h => h2 h.2.1)]; rfl, rfl⟩
  rw [Decidable.not_not] at h2
  rw [decide_eq_true h2]
  refine pkd ?_
  refine mvd ?_
  refine vk (vfa fR2) ?_
  refine ldp ?_ aS
  refine ln ?_ (L_sz _) l32
  refine bi ?_
  by_cases h5 : d.length = 0
  · rw [decide_eq_true (show (((L d).length : Nat) : Int) = 0 by rw [L_length]; omega)]
    refine pkd ?_
    refine mvd ?_
    refine gf ?_
    refine gf ?_
    refine gf ?_
    refine gf ?_
    refine pkd ?_
    refine mvd ?_
    refine gf ?_
    refine gf ?_
    refine gf ?_
    refine gf ?_
    refine pkd ?_
    refine mvd ?_
    refine gf ?_
    refine gf ?_
    refine gf ?_
    refine gf ?_
    refine gfu ?_
    refine gfn ?_
    refine gfn ?_
    refine gf ?_
    refine pkd ?_
    refine rn ?_
    refine .gh (Gh.keep [1, 40] rfl) ?_
    refine cndt ?_
    refine .seq ?_
    refine .region ?_
    refine asd ?_
    refine rn ?_
    refine .ret ?_
    exact ⟨by rw [right_f (fun h => by have := ne_nil_pos.1 h.2.2.2.2.1; omega)]; rfl, rfl⟩
  rw [decide_eq_false (show ¬ (((L d).length : Nat) : Int) = 0 by rw [L_length]; omega)]
  refine pkd ?_
  refine mvd ?_
  refine vk (vfa fR1) ?_
  refine ldp ?_ aS
  refine ln ?_ (L_sz _) l32
  refine bi ?_
  by_cases h3 : 32 < n.length
  · rw [decide_eq_true (show (32 : Int) < ((L n).length : Nat) by rw [L_length]; omega)]
    refine pkd ?_
    refine mvd ?_
    refine gf ?_
    refine gf ?_
    refine gf ?_
    refine gf ?_
    refine pkd ?_
    refine mvd ?_
    refine gf ?_
    refine gf ?_
    refine gf ?_
    refine gf ?_
    refine gfu ?_
    refine gfn ?_
    refine gfn ?_
    refine gf ?_
    refine pkd ?_
    refine rn ?_
    refine .gh (Gh.keep [1, 40] rfl) ?_
    refine cndt ?_
    refine .seq ?_
    refine .region ?_
    refine asd ?_
    refine rn ?_
    refine .ret ?_
    exact ⟨by rw [right_f (fun h => by have := h.2.2.1; omega)]; rfl, rfl⟩
  rw [decide_eq_false (show ¬ (32 : Int) < ((L n).length : Nat) by rw [L_length]; omega)]
  refine pkd ?_
  refine mvd ?_
  refine vk (vfa fR2) ?_
  refine ldp ?_ aS
  refine ln ?_ (L_sz _) l32
  refine bi ?_
  by_cases h4 : 32 < d.length
  · rw [decide_eq_true (show (32 : Int) < ((L d).length : Nat) by rw [L_length]; omega)]
    refine pkd ?_
    refine mvd ?_
    refine gf ?_
    refine gf ?_
    refine gf ?_
    refine gf ?_
    refine gfu ?_
    refine gfn ?_
    refine gfn ?_
    refine gf ?_
    refine pkd ?_
    refine rn ?_
    refine .gh (Gh.keep [1, 40] rfl) ?_
    refine cndt ?_
    refine .seq ?_
    refine .region ?_
    refine asd ?_
    refine rn ?_
    refine .ret ?_
    exact ⟨by rw [right_f (fun h => by have := h.2.2.2.1; omega)]; rfl, rfl⟩
  rw [decide_eq_false (show ¬ (32 : Int) < ((L d).length : Nat) by rw [L_length]; omega)]
  have g1 := refGcd_fn (M := 32) (ls := [n, d]) (by simp [hn, hd]) (by simp; omega) (by simp) (by decide)
  rw [show gcdF [n, d] = Nat.gcd (val n) (val d) by show Nat.gcd (Nat.gcd 0 (val n)) (val d) = _; rw [Nat.gcd_zero_left]] at g1
  have lg : (digs (Nat.gcd (val n) (val d))).length ≤ 32 := digs_len (gcd_lt (Nat.lt_of_lt_of_le (val_lt hn) (Nat.pow_le_pow_right (by decide) (by omega))) (Nat.lt_of_lt_of_le (val_lt hd) (Nat.pow_le_pow_right (by decide) (by omega))))
  have q1 := refCompare_fn (a := digs (Nat.gcd (val n) (val d))) (b := [1]) (digs_ok _) (by simp [Ok]) (by omega) (by simp)
  rw [val_digs, show val [1] = 1 from rfl] at q1
  refine pkd ?_
  refine mvd ?_
  refine vk (vfa fR1) ?_
  refine ldp ?_ aS
  refine ln ?_ (L_sz _) l32
  refine bi ?_
  by_cases h6 : n.length = 0
  · rw [decide_eq_true (show (((L n).length : Nat) : Int) = 0 by rw [L_length]; omega)]
    refine mvd ?_
    refine vk (vfa fR0) ?_
    refine ldp ?_ aB
    by_cases h7 : b = true
    · subst h7
      refine pkd ?_
      refine pkd ?_
      refine rn ?_
      refine .gh (Gh.keep [1, 40] rfl) ?_
      refine cndt ?_
      refine .seq ?_
      refine .region ?_
      refine asd ?_
      refine rn ?_
      refine .ret ?_
      exact ⟨by rw [right_f (fun h => by have := h.2.2.2.2.2.1 (List.length_eq_zero_iff.1 (by omega)); cases this)]; rfl, rfl⟩
    rw [Bool.not_eq_true] at h7; subst h7
    refine pkd ?_
    refine pkd ?_
    refine rn ?_
    refine .gh (Gh.keep [1, 40] rfl) ?_
    refine cndf ?_
    refine .skip ?_
    show AW _ _ _ _ _ _
    refine .seq ?_
    refine .region ?_
    refine vk (vfa fR1) ?_
    refine ldp ?_ aS
    refine vk (vfa fR2) ?_
    refine ldp ?_ aS
    refine bsl ?_ ?_ e2
    · simp [DV.flat, DV.cells, DV.leaf]
    refine fz (p := .t 45) ?_
    refine cl (xs := [.sl (LL [n, d])]) ?_ g1 Try.call62
    refine cl (xs := []) ?_ refOne_fn Try.call69
    refine fz (p := .t 47) ?_
    refine cl (xs := [.sl (L (digs (Nat.gcd (val n) (val d)))), .sl (L [1])]) ?_ q1 Try.call68
    refine bi ?_
    refine asd ?_
    refine rn ?_
    refine .ret ?_
    exact ⟨by rw [show rightL false n d = decide (cmpN (Nat.gcd (val n) (val d)) 1 = 0) from decide_eq_decide.2 ⟨fun h => cmp_one.2 h.2.2.2.2.2.2, fun h => ⟨h1, h2, by omega, by omega, ne_nil_pos.2 (by omega), fun _ => rfl, cmp_one.1 h⟩⟩]; rfl, rfl⟩
  rw [decide_eq_false (show ¬ (((L n).length : Nat) : Int) = 0 by rw [L_length]; omega)]
  refine mvd ?_
  refine gf ?_
  refine gf ?_
  refine pkd ?_
  refine pkd ?_
  refine rn ?_
  refine .gh (Gh.keep [1, 40] rfl) ?_
  refine cndf ?_
  refine .skip ?_
  show AW _ _ _ _ _ _
  refine .seq ?_
  refine .region ?_
  refine vk (vfa fR1) ?_
  refine ldp ?_ aS
  refine vk (vfa fR2) ?_
  refine ldp ?_ aS
  refine bsl ?_ ?_ e2
  · simp [DV.flat, DV.cells, DV.leaf]
  refine fz (p := .t 45) ?_
  refine cl (xs := [.sl (LL [n, d])]) ?_ g1 Try.call62
  refine cl (xs := []) ?_ refOne_fn Try.call69
  refine fz (p := .t 47) ?_
  refine cl (xs := [.sl (L (digs (Nat.gcd (val n) (val d)))), .sl (L [1])]) ?_ q1 Try.call68
  refine bi ?_
  refine asd ?_
  refine rn ?_
  refine .ret ?_
  exact ⟨by rw [show rightL b n d = decide (cmpN (Nat.gcd (val n) (val d)) 1 = 0) from decide_eq_decide.2 ⟨fun h => cmp_one.2 h.2.2.2.2.2.2, fun h => ⟨h1, h2, by omega, by omega, ne_nil_pos.2 (by omega), fun h0 => by rw [h0] at h6; simp at h6, cmp_one.1 h⟩⟩]; rfl, rfl⟩

/-- Numbers, as they come. -/
abbrev RT := Bool × List Nat × List Nat
def RVs (rs : List RT) : List DV := rs.map fun r => Rv r.1 r.2.1 r.2.2
def okR (r : RT) : Prop := Ok r.2.1 ∧ Ok r.2.2 ∧ r.2.1.length ≤ 35184372087808 ∧ r.2.2.length ≤ 35184372087808
def rightR (r : RT) : Bool := rightL r.1 r.2.1 r.2.2
def idxZ : Option Nat → Int
  | some i => i
  | none => -1
theorem RVs_length (rs : List RT) : (RVs rs).length = rs.length := by simp [RVs]
theorem RVs_sz (rs : List RT) : ∃ sz, ∀ x ∈ RVs rs, x.cells.length = sz := ⟨3, fun x hx => by
  simp only [RVs, List.mem_map] at hx
  obtain ⟨n, _, rfl⟩ := hx; rfl⟩
theorem RVs_at {rs : List RT} {i : Nat} {r : RT} (h : rs[i]? = some r) : (RVs rs)[i]? = some (Rv r.1 r.2.1 r.2.2) := by simp [RVs, h]

theorem notRight_fn {b : Bool} {n d : List Nat} (hn : Ok n) (hd : Ok d) (hln : n.length ≤ 35184372087808) (hld : d.length ≤ 35184372087808) : Fn Try.prog 123 [Rv b n d] (.d (.b (!rightL b n d))) := by
  refine Fn.of (rs := [.tmp 2]) (nt := 6) Try.func123 rfl rfl rfl (by simp) rfl ?_
  refine .seq ?_
  refine .region ?_
  refine vk vbx ?_
  refine asd ?_
  refine rn ?_
  refine .seq ?_
  refine .region ?_
  refine vk (vlda aR sR) ?_
  refine cl (xs := [Rv b n d]) ?_ (RRight_fn hn hd hln hld) Try.call19
  refine nt_ ?_
  refine asd ?_
  refine rn ?_
  refine .ret ?_
  exact ⟨rfl, rfl⟩

theorem IndexR_fn {rs : List RT} (h : ∀ r ∈ rs, okR r) (hl : rs.length ≤ 1048576) : Fn Try.prog 134 [.sl (RVs rs), .fn 123 [] []] (.d (.i .i64 (idxZ (rs.findIdx? (fun r => !rightR r))))) := by
  refine Fn.of (rs := [.tmp 4]) (nt := 19) Try.func134 rfl rfl rfl (by simp) rfl ?_
  refine .seq ?_
  refine .region ?_
  refine asd ?_
  refine rn ?_
  refine .seq ?_
  refine .seq ?_
  refine .region ?_
  refine mvd ?_
  refine ln ?_ (RVs_sz _) lR
  refine mvd ?_
  refine rn ?_
  refine .block ?_
  refine .loop (.gh (Gh.keep [0, 1, 6, 7, 8] rfl) ?_)
  refine AL.ind (σ := Nat) (m := fun i => rs.length - i) (e := fun i => [(0, .d (.sl (RVs rs))), (1, .d (.fn 123 [] [])), (6, .d (.sl (RVs rs))), (7, .d (.i .i64 ((RVs rs).length : Nat))), (8, .d (.i .i64 (i : Int)))]) (h := fun _ => [])
    (I := fun i => i ≤ rs.length ∧ ∀ j r, j < i → rs[j]? = some r → rightR r = true) ?_ 0 ⟨Nat.zero_le _, fun j r hj => by omega⟩
  rintro i ⟨h1, h2⟩ ih
  refine .seq ?_
  refine .region ?_
  refine bi ?_
  refine rn ?_
  refine .seq ?_
  by_cases hi : i < rs.length
  · rw [decide_eq_true (show (i : Int) < ((RVs rs).length : Nat) by rw [RVs_length]; omega)]
    have hx : rs[i]? = some rs[i] := List.getElem?_eq_getElem hi
    have hdx : rs.take (i + 1) = rs.take i ++ [rs[i]] := List.take_succ_eq_append_getElem hi
    generalize rs[i] = r at hx hdx
    obtain ⟨o1, o2, o3, o4⟩ := h r (List.mem_of_getElem? hx)
    refine cndt ?_
    refine .skip ?_
    show AW _ _ _ _ _ _
    refine .seq ?_
    refine .block ?_
    refine .seq ?_
    refine .region ?_
    refine mvd ?_
    refine asd ?_
    refine rn ?_
    refine .seq ?_
    refine .region ?_
    refine mvd ?_
    refine mvd ?_
    refine mvd ?_
    refine ix i ?_ rfl (RVs_at hx) rfl slR
    refine vk (vlda aR sR) ?_
    refine cl (xs := [Rv r.1 r.2.1 r.2.2]) ?_ (notRight_fn o1 o2 o3 o4) Try.call123
    refine rn ?_
    by_cases hr : rightL r.1 r.2.1 r.2.2 = false
    · rw [hr]
      refine cndt ?_
      refine .seq ?_
      refine .region ?_
      refine mvd ?_
      refine asd ?_
      refine rn ?_
      refine .ret ?_
      have hf : rs.findIdx? (fun r => !rightR r) = some i := by
        rw [List.findIdx?_eq_some_iff_getElem]
        obtain ⟨hi', he⟩ := List.getElem?_eq_some_iff.1 hx
        refine ⟨hi', by rw [he]; show (!rightL r.1 r.2.1 r.2.2) = true; rw [hr]; rfl, fun j hj => ?_⟩
        have := h2 j rs[j] hj (List.getElem?_eq_getElem (by omega))
        simp [this]
      exact ⟨by rw [hf]; rfl, rfl⟩
    rw [Bool.not_eq_false] at hr
    rw [hr]
    refine cndf ?_
    refine .skip ?_
    show AW _ _ _ _ _ _
    refine .region ?_
    refine ad ((i + 1 : Nat) : Int) ?_ ?_
    · omega
    refine mvd ?_
    refine .nil ?_
    refine AL.gh (Gh.keep [0, 1, 6, 7, 8] rfl) ?_
    exact ih (i + 1) ⟨by omega, fun j r' hj hr' => by
      by_cases hji : j = i
      · subst hji; rw [hx] at hr'; cases hr'; exact hr
      · exact h2 j r' (by omega) hr'⟩ (by omega)
  rw [decide_eq_false (show ¬ (i : Int) < ((RVs rs).length : Nat) by rw [RVs_length]; omega)]
  refine cndf ?_
  refine .exit ?_
  show AW _ _ _ _ _ _
  refine .seq ?_
  refine .region ?_
  refine asd ?_
  refine rn ?_
  refine .ret ?_
  have hf : rs.findIdx? (fun r => !rightR r) = none := by
    rw [List.findIdx?_eq_none_iff]
    intro r hr
    obtain ⟨j, hj⟩ := List.getElem?_of_mem hr
    have hjl := (List.getElem?_eq_some_iff.1 hj).1
    rw [h2 j r (by omega) hj]; rfl
  exact ⟨by rw [hf]; rfl, rfl⟩
end Go.FL
/-
  rat, glyphref02: right, Make; Same.
-/
namespace Go.FL
open Go Go.Proofs


theorem ContainsR_fn {rs : List RT} (h : ∀ r ∈ rs, okR r) (hl : rs.length ≤ 1048576) : Fn Try.prog 122 [.sl (RVs rs), .fn 123 [] []] (.d (.b (!rs.all rightR))) := by
  have f := IndexR_fn h hl
  have e : decide ((0 : Int) ≤ idxZ (rs.findIdx? (fun r => !rightR r))) = !rs.all rightR := by
    cases hf : rs.findIdx? (fun r => !rightR r) with
    | none =>
      rw [List.findIdx?_eq_none_iff] at hf
      have : rs.all rightR = true := List.all_eq_true.2 fun r hr => by have := hf r hr; simpa using this
      rw [this]; rfl
    | some i =>
      rw [List.findIdx?_eq_some_iff_getElem] at hf
      obtain ⟨hi, he, _⟩ := hf
      have : rs.all rightR = false := by
        rw [Bool.eq_false_iff]
        intro ha
        have := List.all_eq_true.1 ha _ (List.getElem_mem hi)
        rw [this] at he; cases he
      rw [this]
      exact decide_eq_true (by show (0 : Int) ≤ (i : Int); omega)
  generalize idxZ (rs.findIdx? (fun r => !rightR r)) = z at *
  refine Fn.of (rs := [.tmp 4]) (nt := 9) Try.func122 rfl rfl rfl (by simp) rfl ?_
  refine .seq ?_
  refine .region ?_
  refine asd ?_
  refine rn ?_
  refine .seq ?_
  refine .region ?_
  refine mvd ?_
  refine mvd ?_
  refine cl (xs := [.sl (RVs rs), .fn 123 [] []]) ?_ f Try.call134
  refine bi ?_
  rw [e]
  refine asd ?_
  refine rn ?_
  refine .ret ?_
  exact ⟨rfl, rfl⟩

theorem right_fn {rs : List RT} (h : ∀ r ∈ rs, okR r) (hl : rs.length ≤ 1048576) : Fn Try.prog 89 [.sl (RVs rs)] (.d (.b (rs.all rightR))) := by
  have f := ContainsR_fn h hl
  generalize rs.all rightR = b at *
  refine Fn.of (rs := [.tmp 2]) (nt := 6) Try.func89 rfl rfl rfl (by simp) rfl ?_
  refine .seq ?_
  refine .region ?_
  refine asd ?_
  refine rn ?_
  refine .seq ?_
  refine .region ?_
  refine mvd ?_
  refine cl (xs := [.sl (RVs rs), .fn 123 [] []]) ?_ f Try.call122
  refine nt_ ?_
  rw [Bool.not_not]
  refine asd ?_
  refine rn ?_
  refine .ret ?_
  exact ⟨rfl, rfl⟩

theorem lowN_form (b : Bool) (n d : Nat) : ∃ c n' d' e, lowN b n d = [Rv c n' d', .i .i64 e] := by
  unfold lowN; split
  · exact ⟨_, _, _, _, rfl⟩
  · split <;> exact ⟨_, _, _, _, rfl⟩
/-- What Make gives. -/
def makeN (b : Bool) (n d : Nat) : List DV := if d = 0 then [Rv false [] [], .i .i64 22] else lowN b n d
theorem len_zero {n : Nat} : ((((L (digs n)).length : Nat) : Int) = 0) ↔ n = 0 := by
  rw [L_length]
  constructor
  · intro h
    exact digs_nil_iff.1 (List.length_eq_zero_iff.1 (by omega))
  · rintro rfl; rw [digs_zero]; rfl

theorem Make_fn {M : Nat} {b : Bool} {n d : List Nat} (hn : Ok n) (hd : Ok d) (hln : n.length ≤ M) (hld : d.length ≤ M) (hM : M ≤ 100000) : Fn Try.prog 16 [.b b, .sl (L n), .sl (L d)] (.tup ((makeN b (val n) (val d)).map .d)) := by
  have f := lowest_fn (b := b) hn hd hln hld hM
  obtain ⟨c, n', d', e, hz3⟩ := lowN_form b (val n) (val d)
  rw [hz3] at f
  refine Fn.ofC (rs := [.cell 6 25, .tmp 7]) (nt := 21) Try.func16 rfl rfl rfl (by simp) (noBp_d _) ?_
  refine .seq ?_
  refine .region ?_
  refine vk (van (zero_of iR) rR) ?_
  refine asd ?_
  refine rn ?_
  refine .seq ?_
  refine .seq ?_
  refine .region ?_
  refine mvd ?_
  refine cl (xs := [.sl (L d)]) ?_ (Trim_fn hd (by omega)) Try.call59
  refine ln ?_ (L_sz _) l32
  refine bi ?_
  refine rn ?_
  refine .gh (Gh.keep [0, 1, 2, 6, 7, 11] rfl) ?_
  by_cases hd0 : val d = 0
  · rw [decide_eq_true (len_zero.2 hd0), makeN, if_pos hd0]
    refine cndt ?_
    refine .seq ?_
    refine .region ?_
    refine vk (vbd pR iR rR) ?_
    refine stn ?_ sR (by decide)
    refine asd ?_
    refine rn ?_
    refine .ret ?_
    exact ⟨_, _, ⟨.inr rfl, aR, sR, (by decide : (0 : Nat) < 3)⟩, rfl, rfl⟩
  rw [decide_eq_false (fun h => hd0 (len_zero.1 h)), makeN, if_neg hd0]
  refine cndf ?_
  refine .skip ?_
  show AW _ _ _ _ _ _
  refine .seq ?_
  refine .region ?_
  refine mvd ?_
  refine mvd ?_
  refine vk (vbd pZ iZ rZ) ?_
  refine mvd ?_
  refine vk (vbd pN iN rN) ?_
  refine vk (av := .d (.tup ([Rv c n' d', .i .i64 e]))) (VOK.tupd (vcl (xs := [Nv b n d]) f Try.call60)) ?_
  refine vk vex ?_
  refine vk vex ?_
  refine stn ?_ sR (by decide)
  refine asd ?_
  refine rn ?_
  refine .ret ?_
  exact ⟨_, _, ⟨.inr rfl, aR, sR, (by decide : (0 : Nat) < 3)⟩, rfl, by rw [hz3]; rfl⟩

theorem refSame_fn (b c : Bool) (n d m e : List Nat) (hn : n.length ≤ 35184372087808) (hd : d.length ≤ 35184372087808) : Fn Try.prog 25 [Rv b n d, Rv c m e] (.d (.b (decide (b = c ∧ n = m ∧ d = e)))) := by
  have s1 := Same_fn n m hn
  have s2 := Same_fn d e hd
  refine Fn.of (rs := [.tmp 4]) (nt := 24) Try.func25 rfl rfl rfl (by simp) rfl ?_
  refine .seq ?_
  refine .region ?_
  refine vk vbx ?_
  refine vk vbx ?_
  refine asd ?_
  refine rn ?_
  refine .seq ?_
  refine .region ?_
  refine vk (vfa fR0) ?_
  refine ldp ?_ aB
  refine vk (vfa fR0) ?_
  refine ldp ?_ aB
  refine bbn ?_ (.inl rfl) bo
  rw [if_pos rfl]
  by_cases hb : b = c
  · subst hb
    rw [beq_self_eq_true]
    refine mvd ?_
    refine vk (vfa fR1) ?_
    refine ldp ?_ aS
    refine vk (vfa fR1) ?_
    refine ldp ?_ aS
    refine cl (xs := [.sl (L n), .sl (L m)]) ?_ s1 Try.call80
    by_cases hm : n = m
    · rw [decide_eq_true hm]
      refine pkd ?_
      refine mvd ?_
      refine vk (vfa fR2) ?_
      refine ldp ?_ aS
      refine vk (vfa fR2) ?_
      refine ldp ?_ aS
      refine cl (xs := [.sl (L d), .sl (L e)]) ?_ s2 Try.call80
      refine pkd ?_
      refine asd ?_
      refine rn ?_
      refine .ret ?_
      exact ⟨by rw [show decide (b = b ∧ n = m ∧ d = e) = decide (d = e) from decide_eq_decide.2 ⟨fun h => h.2.2, fun h => ⟨rfl, hm, h⟩⟩]; rfl, rfl⟩
    rw [decide_eq_false hm]
    refine pkd ?_
    refine mvd ?_
    refine gf ?_
    refine gf ?_
    refine gf ?_
    refine gf ?_
    refine gf ?_
    refine pkd ?_
    refine asd ?_
    refine rn ?_
    refine .ret ?_
    exact ⟨by rw [decide_eq_false (fun h => hm h.2.1)]; rfl, rfl⟩
  rw [beq_false_of_ne hb]
  refine mvd ?_
  refine gf ?_
  refine gf ?_
  refine gf ?_
  refine gf ?_
  refine gf ?_
  refine pkd ?_
  refine mvd ?_
  refine gf ?_
  refine gf ?_
  refine gf ?_
  refine gf ?_
  refine gf ?_
  refine pkd ?_
  refine asd ?_
  refine rn ?_
  refine .ret ?_
  exact ⟨by rw [decide_eq_false (fun h => hb h.1)]; rfl, rfl⟩
end Go.FL
/-
  rat: OfInt, plus, times, less; glyphref02: OfInt, Zero, signed, Two, Times.
-/
namespace Go.FL
open Go Go.Proofs

/-- A number's sign, numerator, denominator; or an error. -/
abbrev QE := Except Int (Bool × Nat × Nat)
def lowE (b : Bool) (n d : Nat) : QE :=
  if Nat.gcd n d = 0 then .error 22
  else if 32 < (digs (n / Nat.gcd n d)).length ∨ 32 < (digs (d / Nat.gcd n d)).length then .error 8
  else .ok (b && decide (n / Nat.gcd n d ≠ 0), n / Nat.gcd n d, d / Nat.gcd n d)
def makeE (b : Bool) (n d : Nat) : QE := if d = 0 then .error 22 else lowE b n d
abbrev Qv (q : Bool × Nat × Nat) : DV := Rv q.1 (digs q.2.1) (digs q.2.2)
def qb : QE → Bool
  | .error _ => false
  | .ok q => q.1
def qn : QE → List Nat
  | .error _ => []
  | .ok q => digs q.2.1
def qd : QE → List Nat
  | .error _ => []
  | .ok q => digs q.2.2
abbrev qv (x : QE) : DV := Rv (qb x) (qn x) (qd x)
def qe : QE → Int
  | .error e => e
  | .ok _ => 0
/-- What functions give that may fail. -/
abbrev resD (x : QE) : List DV := [qv x, .i .i64 (qe x)]
theorem lowN_res (b : Bool) (n d : Nat) : lowN b n d = resD (lowE b n d) := by
  unfold lowN lowE; split
  · rfl
  · split <;> rfl
theorem makeN_res (b : Bool) (n d : Nat) : makeN b n d = resD (makeE b n d) := by
  unfold makeN makeE; split
  · rfl
  · exact lowN_res b n d
/-- The sum of two; the product. -/
def plusN (x y : Bool × Nat × Nat) : Bool × Nat × Nat :=
  if x.1 = y.1 then (x.1, x.2.1 * y.2.2 + y.2.1 * x.2.2, x.2.2 * y.2.2)
  else if y.2.1 * x.2.2 ≤ x.2.1 * y.2.2 then (x.1, x.2.1 * y.2.2 - y.2.1 * x.2.2, x.2.2 * y.2.2)
  else (y.1, y.2.1 * x.2.2 - x.2.1 * y.2.2, x.2.2 * y.2.2)
def timesN (x y : Bool × Nat × Nat) : Bool × Nat × Nat := (x.1 != y.1, x.2.1 * y.2.1, x.2.2 * y.2.2)
theorem u64_nn {z : Int} (h0 : 0 ≤ z) (h1 : z ≤ 9223372036854775807) : IntKind.u64.wrap z = ((z.natAbs : Nat) : Int) := by
  simp only [IntKind.wrap, IntKind.bits, IntKind.signed]; simp; omega
theorem u64_neg {z : Int} (h0 : z < 0) (h1 : -9223372036854775808 ≤ z) : IntKind.u64.wrap (0 - IntKind.u64.wrap z) = ((z.natAbs : Nat) : Int) := by
  simp only [IntKind.wrap, IntKind.bits, IntKind.signed]; simp; omega

theorem OfInt_fn {z : Int} (h1 : -9223372036854775808 ≤ z) (h2 : z ≤ 9223372036854775807) : Fn Try.prog 28 [.i .i64 z] (.d (Rv (decide (z < 0)) (digs z.natAbs) [1])) := by
  have f := Of_fn (n := z.natAbs) (by omega)
  refine Fn.ofC (rs := [.cell 2 25]) (nt := 16) Try.func28 rfl rfl rfl (by simp) rfl ?_
  refine .seq ?_
  refine .region ?_
  refine vk (van (zero_of iR) rR) ?_
  refine rn ?_
  refine .seq ?_
  refine .seq ?_
  refine .region ?_
  refine mvd ?_
  refine bi ?_
  refine rn ?_
  by_cases hz : z < 0
  · rw [decide_eq_true hz]
    refine cndt ?_
    refine .seq ?_
    refine .region ?_
    refine mvd ?_
    refine cv ?_ i64 u64
    refine ng ?_
    rw [u64_neg hz h1]
    refine cl (xs := [.i .u64 ((z.natAbs : Nat) : Int)]) ?_ f Try.call84
    refine cl (xs := []) ?_ one_fn Try.call66
    refine fz (p := .t 9) ?_
    refine vk (vbd pR iR rR) ?_
    refine stn ?_ sR (by decide)
    refine rn ?_
    refine .ret ?_
    exact ⟨_, ⟨.inr rfl, aR, sR, (by decide : (0 : Nat) < 3)⟩, rfl⟩
  rw [decide_eq_false hz]
  refine cndf ?_
  refine .skip ?_
  show AW _ _ _ _ _ _
  refine .seq ?_
  refine .region ?_
  refine mvd ?_
  refine cv ?_ i64 u64
  rw [u64_nn (by omega) h2]
  refine cl (xs := [.i .u64 ((z.natAbs : Nat) : Int)]) ?_ f Try.call84
  refine cl (xs := []) ?_ one_fn Try.call66
  refine fz (p := .t 14) ?_
  refine vk (vbd pR iR rR) ?_
  refine stn ?_ sR (by decide)
  refine rn ?_
  refine .ret ?_
  exact ⟨_, ⟨.inr rfl, aR, sR, (by decide : (0 : Nat) < 3)⟩, rfl⟩


theorem plus_fn {b c : Bool} {n d m e : List Nat} (hn : Ok n) (hd : Ok d) (hm : Ok m) (he : Ok e) (hln : n.length ≤ 4000) (hld : d.length ≤ 4000) (hlm : m.length ≤ 4000) (hle : e.length ≤ 4000) :
    Fn Try.prog 87 [Nv b n d, Nv c m e] (.d (Nv (plusN (b, val n, val d) (c, val m, val e)).1 (digs (plusN (b, val n, val d) (c, val m, val e)).2.1) (digs (plusN (b, val n, val d) (c, val m, val e)).2.2))) := by
  have c1 := cross_fn (n := n) (d := d) (m := m) (e := e) hn he hln hle
  have c2 := cross_fn (n := m) (d := e) (m := n) (e := d) hm hd hlm hld
  have p1 := prods_fn (M := 4000) (ls := [d, e]) (by simp [hd, he]) (by simp [hld, hle]) (by simp) (by decide)
  rw [show prodF [d, e] 1 = val d * val e by show 1 * val d * val e = _; rw [Nat.one_mul]] at p1
  have bnd : ∀ {x y : List Nat}, Ok x → Ok y → x.length ≤ 4000 → y.length ≤ 4000 → (digs (val x * val y)).length ≤ 8000 := fun hx hy lx ly => by
    refine Nat.le_trans (digs_len (k := _ + _) (by rw [Nat.pow_add]; exact Nat.mul_lt_mul'' (val_lt hx) (val_lt hy))) (by omega)
  have b1 := bnd hn he hln hle
  have b2 := bnd hm hd hlm hld
  simp only [plusN]
  generalize val n * val e = x at *
  generalize val m * val d = y at *
  generalize val d * val e = q at *
  have s1 := sum_fn (M := 8000) (ls := [digs x, digs y]) (by simp [digs_ok]) (by simp [b1, b2]) (by simp) (by decide)
  rw [show ([digs x, digs y].map val).sum = x + y by simp only [List.map_cons, List.map_nil, List.sum_cons, List.sum_nil, val_digs]; omega] at s1
  have m1 := Minus_fn (a := digs x) (b := digs y) (digs_ok _) (digs_ok _) (by omega) (by omega)
  have m2 := Minus_fn (a := digs y) (b := digs x) (digs_ok _) (digs_ok _) (by omega) (by omega)
  rw [val_digs, val_digs] at m1 m2
  refine Fn.ofC (rs := [.cell 4 58]) (nt := 69) Try.func87 rfl rfl rfl (by simp) rfl ?_
  refine .seq ?_
  refine .region ?_
  refine vk vbx ?_
  refine vk vbx ?_
  refine vk (van (zero_of iN) rN) ?_
  refine rn ?_
  refine .seq ?_
  refine .drawn 10 mixed (by kernel_rfl) ?_
  refine dv (vfa fN0) ?_
  refine dv (vlda aZ sZ) ?_
  refine dv (vfa fN0) ?_
  refine dv (vlda aZ sZ) ?_
  refine dv (v := .d (.sl (L (digs x)))) (vcl (xs := [Zv n d, Zv m e]) (r := .d (.sl (L (digs x)))) c1 Try.call93) ?_
  refine dv (vfa fN0) ?_
  refine dv (vlda aZ sZ) ?_
  refine dv (vfa fN0) ?_
  refine dv (vlda aZ sZ) ?_
  refine dv (v := .d (.sl (L (digs y)))) (vcl (xs := [Zv m e, Zv n d]) (r := .d (.sl (L (digs y)))) c2 Try.call93) ?_
  refine dz ?_
  refine asd ?_
  refine asd ?_
  refine rn ?_
  refine .gh (Gh.keep [2, 3, 4, 5, 6] rfl) ?_
  refine .seq ?_
  refine .region ?_
  refine vk (vfa fN0) ?_
  refine vk (vfa fZ1) ?_
  refine ldp ?_ aS
  refine vk (vfa fN0) ?_
  refine vk (vfa fZ1) ?_
  refine ldp ?_ aS
  refine bsl ?_ ?_ e2
  · simp [DV.flat, DV.cells, DV.leaf]
  refine fz (p := .t 28) ?_
  refine cl (xs := [.sl (LL [d, e])]) ?_ p1 Try.call73
  refine asd ?_
  refine rn ?_
  refine .gh (Gh.keep [2, 3, 4, 5, 6, 7] rfl) ?_
  refine .seq ?_
  refine .seq ?_
  refine .region ?_
  refine vk (vfa fN1) ?_
  refine ldp ?_ aB
  refine vk (vfa fN1) ?_
  refine ldp ?_ aB
  refine bbn ?_ (.inl rfl) bo
  rw [if_pos rfl]
  refine rn ?_
  by_cases hbc : b = c
  · subst hbc
    rw [beq_self_eq_true, if_pos rfl]
    refine cndt ?_
    refine .seq ?_
    refine .drawn 9 mixed (by kernel_rfl) ?_
    refine dv vmvd ?_
    refine dv vmvd ?_
    refine dv (v := .d (.sl (LL [digs x, digs y]))) (vbsl (LL_flat [digs x, digs y]) e2).deep ?_
    refine dv (v := .d (.sl (L (digs (x + y))))) (vcl (xs := [.sl (LL [digs x, digs y])]) (r := .d (.sl (L (digs (x + y))))) s1 Try.call74) ?_
    refine dv vmvd ?_
    refine dv (vbd pZ iZ rZ) ?_
    refine dv (vfa fN1) ?_
    refine dv (vldp aB) ?_
    refine dv (vbd pN iN rN) ?_
    refine dz ?_
    refine stn ?_ sN (by decide)
    refine rn ?_
    refine .ret ?_
    exact ⟨_, ⟨.inr rfl, aN, sN, (by decide : (0 : Nat) < 3)⟩, rfl⟩
  rw [beq_false_of_ne hbc, if_neg hbc]
  refine cndf ?_
  refine .skip ?_
  show AW _ _ _ _ _ _
  refine .seq ?_
  refine .seq ?_
  refine .region ?_
  refine mvd ?_
  refine mvd ?_
  refine cl (xs := [.sl (L (digs x)), .sl (L (digs y))]) ?_ m1 Try.call103
  refine mvt ?_
  refine ex ?_
  refine ex ?_
  refine asd ?_
  refine asd ?_
  refine rn ?_
  refine .gh (Gh.keep [2, 3, 4, 5, 6, 7, 8, 9] rfl) ?_
  refine .seq ?_
  refine .region ?_
  refine mvd ?_
  refine rn ?_
  by_cases hle2 : y ≤ x
  · rw [decide_eq_true hle2, if_pos hle2]
    refine cndt ?_
    refine .seq ?_
    refine .region ?_
    refine mvd ?_
    refine mvd ?_
    refine vk (vbd pZ iZ rZ) ?_
    refine vk (vfa fN1) ?_
    refine ldp ?_ aB
    refine vk (vbd pN iN rN) ?_
    refine stn ?_ sN (by decide)
    refine rn ?_
    refine .ret ?_
    exact ⟨_, ⟨.inr rfl, aN, sN, (by decide : (0 : Nat) < 3)⟩, by rw [minN_of hle2]; rfl⟩
  rw [decide_eq_false hle2, if_neg hle2]
  refine cndf ?_
  refine .skip ?_
  show AW _ _ _ _ _ _
  refine .seq ?_
  refine .region ?_
  refine mvd ?_
  refine mvd ?_
  refine cl (xs := [.sl (L (digs y)), .sl (L (digs x))]) ?_ m2 Try.call103
  refine mvt ?_
  refine ex ?_
  refine ex ?_
  refine asd ?_
  refine asd ?_
  refine rn ?_
  refine .gh (Gh.keep [2, 3, 4, 7, 10] rfl) ?_
  refine .seq ?_
  refine .region ?_
  refine mvd ?_
  refine mvd ?_
  refine vk (vbd pZ iZ rZ) ?_
  refine vk (vfa fN1) ?_
  refine ldp ?_ aB
  refine vk (vbd pN iN rN) ?_
  refine stn ?_ sN (by decide)
  refine rn ?_
  refine .ret ?_
  exact ⟨_, ⟨.inr rfl, aN, sN, (by decide : (0 : Nat) < 3)⟩, by rw [minN_of (by omega)]; rfl⟩

theorem times_fn {b c : Bool} {n d m e : List Nat} (hn : Ok n) (hd : Ok d) (hm : Ok m) (he : Ok e) (hln : n.length ≤ 4000) (hld : d.length ≤ 4000) (hlm : m.length ≤ 4000) (hle : e.length ≤ 4000) :
    Fn Try.prog 88 [Nv b n d, Nv c m e] (.d (Nv (b != c) (digs (val n * val m)) (digs (val d * val e)))) := by
  have p1 := prods_fn (M := 4000) (ls := [n, m]) (by simp [hn, hm]) (by simp [hln, hlm]) (by simp) (by decide)
  rw [show prodF [n, m] 1 = val n * val m by show 1 * val n * val m = _; rw [Nat.one_mul]] at p1
  have p2 := prods_fn (M := 4000) (ls := [d, e]) (by simp [hd, he]) (by simp [hld, hle]) (by simp) (by decide)
  rw [show prodF [d, e] 1 = val d * val e by show 1 * val d * val e = _; rw [Nat.one_mul]] at p2
  refine Fn.ofC (rs := [.cell 4 58]) (nt := 28) Try.func88 rfl rfl rfl (by simp) rfl ?_
  refine .seq ?_
  refine .region ?_
  refine vk vbx ?_
  refine vk vbx ?_
  refine vk (van (zero_of iN) rN) ?_
  refine rn ?_
  refine .seq ?_
  refine .drawn 23 mixed (by kernel_rfl) ?_
  refine dv (vfa fN0) ?_
  refine dv (vfa fZ0) ?_
  refine dv (vldp aS) ?_
  refine dv (vfa fN0) ?_
  refine dv (vfa fZ0) ?_
  refine dv (vldp aS) ?_
  refine dv (v := .d (.sl (LL [n, m]))) (vbsl (LL_flat [n, m]) e2).deep ?_
  refine dv (v := .d (.sl (L (digs (val n * val m))))) (vcl (xs := [.sl (LL [n, m])]) (r := .d (.sl (L (digs (val n * val m))))) p1 Try.call73) ?_
  refine dv (vfa fN0) ?_
  refine dv (vfa fZ1) ?_
  refine dv (vldp aS) ?_
  refine dv (vfa fN0) ?_
  refine dv (vfa fZ1) ?_
  refine dv (vldp aS) ?_
  refine dv (v := .d (.sl (LL [d, e]))) (vbsl (LL_flat [d, e]) e2).deep ?_
  refine dv (v := .d (.sl (L (digs (val d * val e))))) (vcl (xs := [.sl (LL [d, e])]) (r := .d (.sl (L (digs (val d * val e))))) p2 Try.call73) ?_
  refine dv (vbd pZ iZ rZ) ?_
  refine dv (vfa fN1) ?_
  refine dv (vldp aB) ?_
  refine dv (vfa fN1) ?_
  refine dv (vldp aB) ?_
  refine dv (vbbn (.inr rfl) bo) ?_
  refine dv (vbd pN iN rN) ?_
  refine dz ?_
  refine stn ?_ sN (by decide)
  refine rn ?_
  refine .ret ?_
  exact ⟨_, ⟨.inr rfl, aN, sN, (by decide : (0 : Nat) < 3)⟩, rfl⟩
end Go.FL
/-
  rat: fold, Add, Mul.
-/
namespace Go.FL
open Go Go.Proofs

abbrev Q3 := Bool × Nat × Nat
abbrev lowQ (q : Q3) : QE := lowE q.1 q.2.1 q.2.2
/-- A number as it comes, by its values. -/
abbrev rq (r : RT) : Q3 := (r.1, val r.2.1, val r.2.2)
def foldE (op : Q3 → Q3 → Q3) : Q3 → List RT → QE
  | s, [] => .ok s
  | s, r :: rs => match lowQ (op s (rq r)) with
    | .error e => .error e
    | .ok t => foldE op t rs
def small3 (q : Q3) : Prop := (digs q.2.1).length ≤ 32 ∧ (digs q.2.2).length ≤ 32
theorem lowE_ok {b : Bool} {n d : Nat} {t : Q3} (h : lowE b n d = .ok t) : small3 t := by
  unfold lowE at h
  split at h
  · cases h
  · split at h
    · cases h
    · rename_i h2
      cases h
      exact ⟨Nat.le_of_not_lt fun h3 => h2 (.inl h3), Nat.le_of_not_lt fun h3 => h2 (.inr h3)⟩
theorem lowE_err {b : Bool} {n d : Nat} {e : Int} (h : lowE b n d = .error e) : e ≠ 0 := by
  unfold lowE at h
  split at h
  · cases h; decide
  · split at h
    · cases h; decide
    · cases h
theorem qe_err {x : QE} (h : ¬ qe x = 0) : ∃ e, x = .error e := by
  cases x with
  | error e => exact ⟨e, rfl⟩
  | ok t => exact absurd rfl h
theorem qe_ok {x : QE} (h : qe x = 0) (h2 : ∀ e, x = .error e → e ≠ 0) : ∃ t, x = .ok t := by
  cases x with
  | error e => exact absurd h (h2 e rfl)
  | ok t => exact ⟨t, rfl⟩
theorem rightR_len {r : RT} (h : rightR r = true) : r.2.1.length ≤ 32 ∧ r.2.2.length ≤ 32 := by
  have : RightP r.1 r.2.1 r.2.2 := of_decide_eq_true h
  exact ⟨this.2.2.1, this.2.2.2.1⟩
/-- The calls of a function of two numbers. -/
def twoFn (f : Nat) (op : Q3 → Q3 → Q3) : Prop :=
  ∀ (b c : Bool) (n d m e : List Nat), Ok n → Ok d → Ok m → Ok e → n.length ≤ 32 → d.length ≤ 32 → m.length ≤ 32 → e.length ≤ 32 →
    Fn Try.prog f [Nv b n d, Nv c m e] (.d (Nv (op (b, val n, val d) (c, val m, val e)).1 (digs (op (b, val n, val d) (c, val m, val e)).2.1) (digs (op (b, val n, val d) (c, val m, val e)).2.2)))
    ∧ (digs (op (b, val n, val d) (c, val m, val e)).2.1).length ≤ 100 ∧ (digs (op (b, val n, val d) (c, val m, val e)).2.2).length ≤ 100

theorem fold_fn {z : Int} {rs : List RT} {f : Nat} {op : Q3 → Q3 → Q3} (hz0 : 0 ≤ z) (hz1 : z ≤ 1) (h : ∀ r ∈ rs, okR r) (hl : rs.length ≤ 1048576) (hop : twoFn f op) (hcall : ∀ args w, (callFunc f args).run Try.prog w = .ok (.enter f args) w) :
    Fn Try.prog 86 [.i .i64 z, .sl (RVs rs), .fn f [] []] (.tup ((resD (if rs.all rightR = true then foldE op (false, z.natAbs, 1) rs else .error 22)).map .d)) := by
  have f1 := right_fn h hl
  have f2 := OfInt_fn (z := z) (by omega) (by omega)
  rw [decide_eq_false (show ¬ z < 0 by omega)] at f2
  have one : digs 1 = [1] := one_limb (n := 1) (by decide) (by decide)
  refine Fn.ofC (rs := [.cell 6 25, .tmp 7]) (nt := 42) Try.func86 rfl rfl rfl (by simp) (noBp_d _) ?_
  refine .seq ?_
  refine .region ?_
  refine vk (van (zero_of iR) rR) ?_
  refine asd ?_
  refine rn ?_
  refine .seq ?_
  refine .seq ?_
  refine .region ?_
  refine mvd ?_
  refine cl (xs := [.sl (RVs rs)]) ?_ f1 Try.call89
  refine nt_ ?_
  refine rn ?_
  refine .gh (Gh.keep [0, 1, 2, 6, 7, 15] rfl) ?_
  by_cases hr : rs.all rightR = false
  · rw [hr, if_neg (by decide)]
    refine cndt ?_
    refine .seq ?_
    refine .region ?_
    refine vk (vbd pR iR rR) ?_
    refine stn ?_ sR (by decide)
    refine asd ?_
    refine rn ?_
    refine .ret ?_
    exact ⟨_, _, ⟨.inr rfl, aR, sR, (by decide : (0 : Nat) < 3)⟩, rfl, rfl⟩
  rw [Bool.not_eq_false] at hr
  rw [hr, if_pos rfl]
  refine cndf ?_
  refine .skip ?_
  show AW _ _ _ _ _ _
  refine .seq ?_
  refine .region ?_
  refine mvd ?_
  refine cl (xs := [.i .i64 z]) ?_ f2 Try.call28
  refine vk (van (zero_of iR) rR) ?_
  refine stn ?_ sR (by decide)
  refine rn ?_
  refine .gh (Gh.keep [1, 2, 6, 8] rfl) ?_
  refine .seq ?_
  refine .seq ?_
  refine .region ?_
  refine mvd ?_
  refine ln ?_ (RVs_sz _) lR
  refine mvd ?_
  refine rn ?_
  refine .block ?_
  refine .loop (.gh (Gh.keep [2, 6, 8, 19, 20, 21] rfl) ?_)
  refine AL.cast (env' := [(2, .d (.fn f [] [])), (6, .nb [.b false, .sl [], .sl []]), (8, .nb [.b false, .sl (L (digs z.natAbs)), .sl (L (digs 1))]), (19, .d (.sl (RVs rs))), (20, .d (.i .i64 ((RVs rs).length : Nat))), (21, .d (.i .i64 ((0 : Nat) : Int)))]) (by rw [one]; rfl) ?_
  refine AL.ind (σ := Q3 × Nat) (m := fun p => rs.length - p.2) (e := fun p => [(2, .d (.fn f [] [])), (6, .nb [.b false, .sl [], .sl []]), (8, .nb [.b p.1.1, .sl (L (digs p.1.2.1)), .sl (L (digs p.1.2.2))]), (19, .d (.sl (RVs rs))), (20, .d (.i .i64 ((RVs rs).length : Nat))), (21, .d (.i .i64 (p.2 : Int)))]) (h := fun _ => [])
    (I := fun p => p.2 ≤ rs.length ∧ small3 p.1 ∧ foldE op p.1 (rs.drop p.2) = foldE op (false, z.natAbs, 1) rs) ?_ ((false, z.natAbs, 1), 0) ⟨Nat.zero_le _, ⟨by have := digs_len (n := z.natAbs) (k := 32) (Nat.lt_of_lt_of_le (show z.natAbs < 2 by omega) (by decide)); exact this, by rw [one]; decide⟩, rfl⟩
  rintro ⟨s, i⟩ ⟨h1, h2, h3⟩ ih
  dsimp only at h1 h2 h3 ih ⊢
  refine .seq ?_
  refine .region ?_
  refine bi ?_
  refine rn ?_
  refine .seq ?_
  by_cases hi : i < rs.length
  · rw [decide_eq_true (show (i : Int) < ((RVs rs).length : Nat) by rw [RVs_length]; omega)]
    have hx : rs[i]? = some rs[i] := List.getElem?_eq_getElem hi
    have hdr : rs.drop i = rs[i] :: rs.drop (i + 1) := List.drop_eq_getElem_cons hi
    generalize rs[i] = r at hx hdr
    have hmem := List.mem_of_getElem? hx
    obtain ⟨o1, o2, o3, o4⟩ := h r hmem
    obtain ⟨l1, l2⟩ := rightR_len (List.all_eq_true.1 hr r hmem)
    obtain ⟨w1, w3, w4⟩ := hop s.1 r.1 (digs s.2.1) (digs s.2.2) r.2.1 r.2.2 (digs_ok _) (digs_ok _) o1 o2 h2.1 h2.2 l1 l2
    rw [hdr] at h3
    rw [val_digs, val_digs] at w1 w3 w4
    rw [foldE] at h3
    have hop2 : op (s.1, s.2.1, s.2.2) (r.1, val r.2.1, val r.2.2) = op s (rq r) := rfl
    rw [hop2] at w1 w3 w4
    generalize op s (rq r) = t at *
    have w2 := lowest_fn (M := 100) (b := t.1) (digs_ok t.2.1) (digs_ok t.2.2) w3 w4 (by decide)
    rw [val_digs, val_digs, lowN_res] at w2
    have hxs : ∀ q, lowQ t = .ok q → small3 q := fun q hq => lowE_ok hq
    have hxe : ∀ e, lowQ t = .error e → e ≠ 0 := fun e he => lowE_err he
    replace w2 : Fn Try.prog 60 [Nv t.1 (digs t.2.1) (digs t.2.2)] (.tup ((resD (lowQ t)).map .d)) := w2
    generalize lowQ t = x at *
    refine cndt ?_
    refine .skip ?_
    show AW _ _ _ _ _ _
    refine .seq ?_
    refine .block ?_
    refine .seq ?_
    refine .region ?_
    refine ix i ?_ rfl (RVs_at hx) rfl slR
    refine vk (vlda aR sR) ?_
    refine vk (van (zero_of iR) rR) ?_
    refine stn ?_ sR (by decide)
    refine RL.gh (Gh.nbp (t := 10) rfl) ?_
    refine rn ?_
    refine .gh (Gh.keep [2, 6, 8, 10, 19, 20, 21] rfl) ?_
    refine .seq ?_
    refine .drawnF 11 [9] [(11, .nb [.b (qb x), .sl (L (qn x)), .sl (L (qd x))])] [] mixed (by kernel_rfl) rfl ?_
    refine dv vmvd ?_
    refine dv (vldn aR sR) ?_
    refine dv (v := .d (Nv s.1 (digs s.2.1) (digs s.2.2))) (vcl (xs := [Qv s]) (r := .d (Nv s.1 (digs s.2.1) (digs s.2.2))) (of_fn s.1 (digs s.2.1) (digs s.2.2)) Try.call90) ?_
    refine dv (vlda aR sR) ?_
    refine dv (v := .d (Nv r.1 r.2.1 r.2.2)) (vcl (xs := [Rv r.1 r.2.1 r.2.2]) (r := .d (Nv r.1 r.2.1 r.2.2)) (of_fn r.1 r.2.1 r.2.2) Try.call90) ?_
    refine dv (v := .d (Nv t.1 (digs t.2.1) (digs t.2.2))) (vcl (xs := [Nv s.1 (digs s.2.1) (digs s.2.2), Nv r.1 r.2.1 r.2.2]) (r := .d (Nv t.1 (digs t.2.1) (digs t.2.2))) w1 hcall) ?_
    refine dv (v := .d (.tup (resD x))) (VOK.tupd (vcl (xs := [Nv t.1 (digs t.2.1) (digs t.2.2)]) w2 Try.call60)) ?_
    refine dv vmvd ?_
    refine dv vex ?_
    refine dv vex ?_
    refine dv (van (zero_of iR) rR) ?_
    refine dz ?_
    refine ⟨?_, ?_, ?_⟩
    · intro k hk
      simp only [List.mem_cons, List.not_mem_nil, or_false] at hk
      subst hk
      exact ⟨_, _, _, rfl, rfl, rfl, rfl, rfl, rfl, vex⟩
    · intro om e hom hge
      cases hom
      exact ok_stn (cs := [.b false, .sl [], .sl []]) (cs' := [.b (qb x), .sl (L (qn x)), .sl (L (qd x))]) sR (by decide) rfl ((hge 11 (fun k hk v hv => by
          simp only [List.mem_cons, List.not_mem_nil, or_false] at hk
          subst hk; exact (by decide : ¬ (some 34 = some 11)) (congrArg (Option.map Prod.fst) hv))).trans rfl) ((congrArg deepOf (hge 33 (fun k hk v hv => by
          simp only [List.mem_cons, List.not_mem_nil, or_false] at hk
          subst hk; exact (by decide : ¬ (some 34 = some 33)) (congrArg (Option.map Prod.fst) hv)))).trans rfl) rfl rfl rfl rfl ⟨rfl, rfl⟩
    refine RL.gh (Gh.nbp (t := 11) rfl) ?_
    refine asd ?_
    refine rn ?_
    refine .gh (Gh.keep [2, 6, 8, 11, 12, 19, 20, 21] rfl) ?_
    refine .seq ?_
    refine .seq ?_
    refine .region ?_
    refine mvd ?_
    refine bi ?_
    refine rn ?_
    by_cases hxq : ¬ qe x = 0
    · rw [decide_eq_false hxq]
      obtain ⟨e, rfl⟩ := qe_err hxq
      refine cndt ?_
      refine .seq ?_
      refine .region ?_
      refine vk (vbd pR iR rR) ?_
      refine mvd ?_
      refine stn ?_ sR (by decide)
      refine asd ?_
      refine rn ?_
      refine .ret ?_
      exact ⟨_, _, ⟨.inr rfl, aR, sR, (by decide : (0 : Nat) < 3)⟩, rfl, by rw [← h3]; rfl⟩
    rw [Decidable.not_not] at hxq
    rw [decide_eq_true hxq]
    obtain ⟨q, rfl⟩ := qe_ok hxq hxe
    refine cndf ?_
    refine .skip ?_
    show AW _ _ _ _ _ _
    refine .region ?_
    refine vk (vlda aR sR) ?_
    refine stn ?_ sR (by decide)
    refine .nil ?_
    show AW _ _ _ _ _ _
    refine .region ?_
    refine ad ((i + 1 : Nat) : Int) ?_ ?_
    · omega
    refine mvd ?_
    refine .nil ?_
    refine AL.gh (Gh.keep [2, 6, 8, 19, 20, 21] rfl) ?_
    exact ih (q, i + 1) ⟨by dsimp only; omega, hxs q rfl, h3⟩ (by dsimp only; omega)
  rw [decide_eq_false (show ¬ (i : Int) < ((RVs rs).length : Nat) by rw [RVs_length]; omega)]
  refine cndf ?_
  refine .exit ?_
  show AW _ _ _ _ _ _
  refine .seq ?_
  refine .region ?_
  refine vk (vldn aR sR) ?_
  refine stn ?_ sR (by decide)
  refine asd ?_
  refine rn ?_
  refine .ret ?_
  rw [List.drop_eq_nil_of_le (by omega)] at h3
  exact ⟨_, _, ⟨.inr rfl, aR, sR, (by decide : (0 : Nat) < 3)⟩, rfl, by rw [← h3]; rfl⟩

theorem mul_len {x y : List Nat} {k : Nat} (hx : Ok x) (hy : Ok y) (lx : x.length ≤ k) (ly : y.length ≤ k) : (digs (val x * val y)).length ≤ 2 * k :=
  Nat.le_trans (digs_len (k := _ + _) (by rw [Nat.pow_add]; exact Nat.mul_lt_mul'' (val_lt hx) (val_lt hy))) (by omega)
theorem add_len {x y k : Nat} (hx : (digs x).length ≤ k) (hy : (digs y).length ≤ k) : (digs (x + y)).length ≤ k + 1 := by
  have h1 := Nat.lt_of_lt_of_le (val_lt (digs_ok x)) (Nat.pow_le_pow_right (n := 4294967296) (by decide) hx)
  have h2 := Nat.lt_of_lt_of_le (val_lt (digs_ok y)) (Nat.pow_le_pow_right (n := 4294967296) (by decide) hy)
  rw [val_digs] at h1 h2
  refine digs_len ?_
  rw [pow_split]; omega
theorem sub_len {x y k : Nat} (hx : (digs x).length ≤ k) : (digs (x - y)).length ≤ k := Nat.le_trans (digs_mono (Nat.sub_le x y)) hx
theorem plus_two : twoFn 87 plusN := by
  intro b c n d m e hn hd hm he ln ld lm le
  have l1 := mul_len hn he ln le
  have l2 := mul_len hm hd lm ld
  refine ⟨plus_fn hn hd hm he (by omega) (by omega) (by omega) (by omega), ?_, ?_⟩
  · simp only [plusN]
    generalize val n * val e = x at *
    generalize val m * val d = y at *
    split
    · exact Nat.le_trans (add_len l1 l2) (by decide)
    · split
      · exact Nat.le_trans (sub_len l1) (by decide)
      · exact Nat.le_trans (sub_len l2) (by decide)
  · have := mul_len hd he ld le
    have h : (plusN (b, val n, val d) (c, val m, val e)).2.2 = val d * val e := by simp only [plusN]; split <;> first | rfl | (split <;> rfl)
    rw [h]; omega
theorem times_two : twoFn 88 timesN := by
  intro b c n d m e hn hd hm he ln ld lm le
  have l1 := mul_len hn hm ln lm
  have l2 := mul_len hd he ld le
  exact ⟨times_fn hn hd hm he (by omega) (by omega) (by omega) (by omega), by show (digs (val n * val m)).length ≤ 100; omega, by show (digs (val d * val e)).length ≤ 100; omega⟩
def addE (rs : List RT) : QE := if rs.all rightR = true then foldE plusN (false, 0, 1) rs else .error 22
def mulE (rs : List RT) : QE := if rs.all rightR = true then foldE timesN (false, 1, 1) rs else .error 22

theorem RAdd_fn {rs : List RT} (h : ∀ r ∈ rs, okR r) (hl : rs.length ≤ 1048576) : Fn Try.prog 34 [.sl (RVs rs)] (.tup ((resD (addE rs)).map .d)) := by
  have f := fold_fn (z := 0) (by decide) (by decide) h hl plus_two Try.call87
  replace f : Fn Try.prog 86 [.i .i64 0, .sl (RVs rs), .fn 87 [] []] (.tup ((resD (addE rs)).map .d)) := f
  generalize addE rs = x at *
  refine Fn.ofC (rs := [.cell 2 25, .tmp 3]) (nt := 8) Try.func34 rfl rfl rfl (by simp) (noBp_d _) ?_
  refine .seq ?_
  refine .region ?_
  refine vk (van (zero_of iR) rR) ?_
  refine asd ?_
  refine rn ?_
  refine .seq ?_
  refine .region ?_
  refine mvd ?_
  refine vk (av := .d (.tup (resD x))) (VOK.tupd (vcl (xs := [.i .i64 0, .sl (RVs rs), .fn 87 [] []]) f Try.call86)) ?_
  refine vk vex ?_
  refine vk vex ?_
  refine stn ?_ sR (by decide)
  refine asd ?_
  refine rn ?_
  refine .ret ?_
  exact ⟨_, _, ⟨.inr rfl, aR, sR, (by decide : (0 : Nat) < 3)⟩, rfl, rfl⟩

theorem RMul_fn {rs : List RT} (h : ∀ r ∈ rs, okR r) (hl : rs.length ≤ 1048576) : Fn Try.prog 35 [.sl (RVs rs)] (.tup ((resD (mulE rs)).map .d)) := by
  have f := fold_fn (z := 1) (by decide) (by decide) h hl times_two Try.call88
  replace f : Fn Try.prog 86 [.i .i64 1, .sl (RVs rs), .fn 88 [] []] (.tup ((resD (mulE rs)).map .d)) := f
  generalize mulE rs = x at *
  refine Fn.ofC (rs := [.cell 2 25, .tmp 3]) (nt := 8) Try.func35 rfl rfl rfl (by simp) (noBp_d _) ?_
  refine .seq ?_
  refine .region ?_
  refine vk (van (zero_of iR) rR) ?_
  refine asd ?_
  refine rn ?_
  refine .seq ?_
  refine .region ?_
  refine mvd ?_
  refine vk (av := .d (.tup (resD x))) (VOK.tupd (vcl (xs := [.i .i64 1, .sl (RVs rs), .fn 88 [] []]) f Try.call86)) ?_
  refine vk vex ?_
  refine vk vex ?_
  refine stn ?_ sR (by decide)
  refine asd ?_
  refine rn ?_
  refine .ret ?_
  exact ⟨_, _, ⟨.inr rfl, aR, sR, (by decide : (0 : Nat) < 3)⟩, rfl, rfl⟩
end Go.FL
/-
  GP, 2: facts of the types.
-/
namespace Go.FL
open Go Go.Proofs

theorem ga_bool : aggT Try.prog 4 = some false := by kernel_rfl
theorem gk_int : Try.prog.underlying 3 = some (.int .i64) := by kernel_rfl
theorem gk_int32 : Try.prog.underlying 21 = some (.int .i32) := by kernel_rfl
theorem gk_uint8 : Try.prog.underlying 5 = some (.int .u8) := by kernel_rfl
theorem gk_uint64 : Try.prog.underlying 77 = some (.int .u64) := by kernel_rfl
theorem gA_R : aggT Try.prog 25 = some true := by kernel_rfl
theorem gS_R : szOf Try.prog 25 = 3 := by kernel_rfl
theorem gF_R_0 : fieldT Try.prog 25 0 = some (0, 1) := by kernel_rfl
theorem gF_R_1 : fieldT Try.prog 25 1 = some (1, 1) := by kernel_rfl
theorem gF_R_2 : fieldT Try.prog 25 2 = some (2, 1) := by kernel_rfl
theorem gP_R : structT Try.prog 25 = some [(0, 1), (1, 1), (2, 1)] := by kernel_rfl
theorem gI_R : (Try.prog.info? 25).bind (·.zero) = some (.agg #[.bool false, .slice none 0 0, .slice none 0 0]) := by kernel_rfl
theorem gZ_R (w : World) (I : Nat → Prop) : RepAll w I [.b false, .sl [], .sl []] (Value.agg #[.bool false, .slice none 0 0, .slice none 0 0]).cells.toList := .cons (.b _) (.cons (.sl0 _ _) (.cons (.sl0 _ _) (.nil)))
theorem ga_L : aggT Try.prog 22 = some false := by kernel_rfl
theorem ge_L : elemT Try.prog 22 = some (65, 1, 4, .int .u32 0) := by kernel_rfl
theorem gu_L : Try.prog.underlying 22 = some (.slice (Try.prog.elem 22)) := by kernel_rfl
theorem ge_LL : elemT Try.prog 61 = some (22, 1, 24, .slice none 0 0) := by kernel_rfl
theorem ge_RVs : elemT Try.prog 50 = some (25, 3, 56, .agg #[.bool false, .slice none 0 0, .slice none 0 0]) := by kernel_rfl
theorem RVs_flat (xs : List RT) : ∀ d ∈ RVs xs, d.flat = true ∧ d.cells.length = 3 := fun x hx => by
  simp only [RVs, List.mem_map] at hx
  obtain ⟨n, _, rfl⟩ := hx
  exact ⟨by simp [DV.flat, DV.cells, DV.leaf], rfl⟩
end Go.FL
/-
  Texts and their numbers.
-/
namespace Go.FL
open Go Go.Proofs

/-- What digits read as, behind a number; or none. -/
def pv : List Nat → Nat → Option Nat
  | [], n => some n
  | c :: r, n => if 48 ≤ c ∧ c ≤ 57 then pv r (n * 10 + (c - 48)) else none
def parN (bs : List Nat) : Nat := (pv bs 0).getD 0
def parOK (bs : List Nat) : Bool := (pv bs 0).isSome && !bs.isEmpty
end Go.FL
/-
  nat.Parse; glyphref01's Parse, Print.
-/
namespace Go.FL
open Go Go.Proofs

theorem drop_at {bs : List Nat} {i : Nat} (h : i < bs.length) : bs.drop i = bs[i] :: bs.drop (i + 1) := List.drop_eq_getElem_cons h
theorem pow10_le (i : Nat) : 10 ^ i ≤ 4294967296 ^ i := Nat.pow_le_pow_left (by decide) i
theorem empty_iff (s : ByteArray) : decide (s = ByteArray.empty) = (byts s).isEmpty := by
  by_cases h : s = ByteArray.empty
  · subst h; rfl
  · rw [decide_eq_false h]
    cases hb : byts s with
    | nil =>
      exfalso; apply h
      have : s.data.toList = [] := by simpa [byts] using hb
      apply ByteArray.ext
      apply Array.ext'
      rw [this]; rfl
    | cons x r => rfl
theorem u8_sub {c : Nat} (h1 : 48 ≤ c) (h2 : c ≤ 57) : IntKind.u8.wrap ((c : Int) - 48) = ((c - 48 : Nat) : Int) := by
  simp only [IntKind.wrap, IntKind.bits, IntKind.signed]; simp; omega
theorem Parse_fn {s : ByteArray} (hl : s.size ≤ 5000) : Fn Try.prog 72 [.s s] (.tup [.d (.sl (L (digs (parN (byts s))))), .d (.b (parOK (byts s)))]) := by
  have hbl := byts_length s
  have hb256 := byts_lt s
  have hemp := empty_iff s
  refine Fn.of (rs := [.tmp 2, .tmp 3]) (nt := 33) Try.func72 rfl rfl rfl (by simp) rfl ?_
  refine .seq ?_
  refine .region ?_
  refine asn ?_
  refine asd ?_
  refine rn ?_
  refine .seq ?_
  refine .region ?_
  refine asn ?_
  refine rn ?_
  refine .mid (fun e H' => H' = [] ∧ ∃ n, pv (byts s) 0 = some n ∧ e = [(0, .d (.s s)), (4, .d (.sl (L (digs n))))]) ?_ ?_
  · refine .seq ?_
    refine .region ?_
    refine mvd ?_
    refine csb st q8 u8 ?_
    generalize byts s = bs at *
    refine ln ?_ ⟨1, B_sz bs⟩ l8
    refine mvd ?_
    refine rn ?_
    refine .block ?_
    refine .gh (Gh.nlD (t := 4) rfl) ?_
    refine .loop (.gh (Gh.keep [0, 2, 3, 4, 8, 9, 10] rfl) ?_)
    refine AL.cast (env' := [(0, .d (.s s)), (2, .nl), (3, .d (.b false)), (4, .d (.sl (L (digs 0)))), (8, .d (.sl (B bs))), (9, .d (.i .i64 ((B bs).length : Nat))), (10, .d (.i .i64 ((0 : Nat) : Int)))]) (by rw [digs_zero]; rfl) ?_
    refine AL.ind (σ := Nat × Nat) (m := fun p => bs.length - p.1) (e := fun p => [(0, .d (.s s)), (2, .nl), (3, .d (.b false)), (4, .d (.sl (L (digs p.2)))), (8, .d (.sl (B bs))), (9, .d (.i .i64 ((B bs).length : Nat))), (10, .d (.i .i64 (p.1 : Int)))]) (h := fun _ => [])
      (I := fun p => p.1 ≤ bs.length ∧ pv bs 0 = pv (bs.drop p.1) p.2 ∧ p.2 < 10 ^ p.1) ?_ (0, 0) ⟨by simp, by simp, by simp⟩
    rintro ⟨i, n⟩ ⟨h1, h2, h3⟩ ih
    dsimp only at h1 h2 h3 ih ⊢
    refine .seq ?_
    refine .region ?_
    refine bi ?_
    refine rn ?_
    refine .seq ?_
    by_cases hi : i < bs.length
    · rw [decide_eq_true (show (i : Int) < ((B bs).length : Nat) by rw [B_length]; omega)]
      have hx : bs[i]? = some bs[i] := List.getElem?_eq_getElem hi
      rw [drop_at hi] at h2
      generalize bs[i] = c at *
      have hc256 := hb256 c (List.mem_of_getElem? hx)
      refine cndt ?_
      refine .skip ?_
      show AW _ _ _ _ _ _
      refine .seq ?_
      refine .block ?_
      refine .seq ?_
      refine .region ?_
      refine ix i ?_ rfl (B_at hx) rfl s8
      refine ldp ?_ a8
      refine asd ?_
      refine rn ?_
      refine .gh (Gh.keep [0, 2, 3, 4, 6, 8, 9, 10] rfl) ?_
      refine .mid (fun e H' => H' = [] ∧ (48 ≤ c ∧ c ≤ 57) ∧ e = [(0, .d (.s s)), (2, .nl), (3, .d (.b false)), (4, .d (.sl (L (digs n)))), (6, .d (.i .u8 (c : Int))), (8, .d (.sl (B bs))), (9, .d (.i .i64 ((B bs).length : Nat))), (10, .d (.i .i64 (i : Int)))]) ?_ ?_
      · have bad : ¬ (48 ≤ c ∧ c ≤ 57) → parN bs = 0 ∧ parOK bs = false := fun h => by
          have : pv bs 0 = none := by rw [h2, pv, if_neg h]
          unfold parN parOK; rw [this]; exact ⟨rfl, rfl⟩
        refine .seq ?_
        refine .region ?_
        refine mvd ?_
        refine bi ?_
        refine mvd ?_
        by_cases hc1 : c < 48
        · rw [decide_eq_true (show (c : Int) < 48 by omega)]
          obtain ⟨b1, b2⟩ := bad (by omega)
          refine gf ?_
          refine gf ?_
          refine pkd ?_
          refine rn ?_
          refine cndt ?_
          refine .seq ?_
          refine .region ?_
          refine asn ?_
          refine asd ?_
          refine rn ?_
          refine .gh (Gh.nlD (t := 2) rfl) ?_
          refine .ret ?_
          exact ⟨by decide, by rw [b1, b2, digs_zero]; rfl, rfl, rfl⟩
        · rw [decide_eq_false (show ¬ (c : Int) < 48 by omega)]
          refine mvd ?_
          refine bi ?_
          refine pkd ?_
          refine rn ?_
          by_cases hc2 : 57 < c
          · rw [decide_eq_true (show (57 : Int) < (c : Int) by omega)]
            obtain ⟨b1, b2⟩ := bad (by omega)
            refine cndt ?_
            refine .seq ?_
            refine .region ?_
            refine asn ?_
            refine asd ?_
            refine rn ?_
            refine .gh (Gh.nlD (t := 2) rfl) ?_
            refine .ret ?_
            exact ⟨by decide, by rw [b1, b2, digs_zero]; rfl, rfl, rfl⟩
          · rw [decide_eq_false (show ¬ (57 : Int) < (c : Int) by omega)]
            refine cndf ?_
            refine .gh (Gh.keep [0, 2, 3, 4, 6, 8, 9, 10] rfl) ?_
            refine .skip ?_
            exact ⟨rfl, by omega, rfl⟩
      rintro _ _ ⟨rfl, hc, rfl⟩
      have hnl : (digs n).length ≤ 5000 := Nat.le_trans (digs_len (Nat.lt_of_lt_of_le h3 (pow10_le i))) (by omega)
      have hv10 : val [10] = 10 := by simp [val]
      have hpl : (digs (n * 10)).length ≤ 5001 := Nat.le_trans (digs_len (k := i + 1) (by
        refine Nat.lt_of_lt_of_le ?_ (pow10_le (i + 1))
        rw [Nat.pow_succ]; omega)) (by omega)
      have fp := prod_fn (a := digs n) (b := [10]) (digs_ok n) (by simp [Ok]) (by omega) (by simp)
      rw [val_digs, hv10] at fp
      have fs := sum_fn (M := 5001) (ls := [digs (n * 10), [c - 48]]) (by simp [digs_ok]; simp [Ok]; omega) (by simp; omega) (by simp) (by decide)
      have es : ([digs (n * 10), [c - 48]].map val).sum = n * 10 + (c - 48) := by simp [val_digs, val]
      rw [es] at fs
      generalize digs (n * 10) = pd at *
      refine .region ?_
      refine mvd ?_
      refine bsl ?_ ?_ e32
      · simp [DV.flat, DV.cells, DV.leaf]
      refine fz (p := .t 21) ?_
      refine cl (xs := [.sl (L (digs n)), .sl (L [10])]) ?_ fp Try.call115
      refine mvd ?_
      refine bie (.i .u8 ((c - 48 : Nat) : Int)) ?_ ?_
      · exact ⟨trivial, by rw [u8_sub hc.1 hc.2]⟩
      refine cve ((c - 48 : Nat) : Int) (toU32 (by omega)) ?_ u8 u32
      refine bsl ?_ ?_ e32
      · simp [DV.flat, DV.cells, DV.leaf]
      refine fz (p := .t 26) ?_
      refine bsl ?_ ?_ e2
      · simp [DV.flat, DV.cells, DV.leaf]
      refine fz (p := .t 27) ?_
      refine cl (xs := [.sl (LL [pd, [c - 48]])]) ?_ fs Try.call74
      refine asd ?_
      refine .nil ?_
      show AW _ _ _ _ _ _
      refine .region ?_
      refine ad ((i + 1 : Nat) : Int) ?_ ?_
      · omega
      refine mvd ?_
      refine rn ?_
      refine .gh (Gh.keep [0, 2, 3, 4, 8, 9, 10] rfl) ?_
      refine ih (i + 1, n * 10 + (c - 48)) ⟨by dsimp only; omega, ?_, ?_⟩ (by dsimp only; omega)
      · dsimp only
        rw [h2, pv, if_pos hc]
      · dsimp only
        rw [Nat.pow_succ]; omega
    · rw [decide_eq_false (show ¬ (i : Int) < ((B bs).length : Nat) by rw [B_length]; omega)]
      refine cndf ?_
      refine .gh (Gh.keep [0, 4] rfl) ?_
      refine .exit ?_
      rw [List.drop_eq_nil_of_le (by omega)] at h2
      exact ⟨rfl, n, h2, rfl⟩
  rintro _ _ ⟨rfl, n, hn, rfl⟩
  refine .seq ?_
  refine .region ?_
  refine mvd ?_
  refine mvd ?_
  refine seq_ ?_
  refine asd ?_
  refine asd ?_
  refine rn ?_
  refine .ret ?_
  have e1 : parN (byts s) = n := by unfold parN; rw [hn]; rfl
  have e2 : parOK (byts s) = !(byts s).isEmpty := by unfold parOK; rw [hn]; rfl
  refine ⟨by decide, ?_, rfl, rfl⟩
  rw [e1, e2, ← hemp]; rfl
end Go.FL
/-
  glyphref01.Print.
-/
namespace Go.FL
open Go Go.Proofs

end Go.FL
/-
  GP, 3: the contracts of numbers that were proved by hand, in the printed form.
-/
namespace Go.FL
open Go Go.Proofs

def okL (k : Nat) (a : List Nat) : Bool := a.all (fun x => decide (x < 4294967296)) && decide (a.length ≤ k)
theorem okL_iff {k : Nat} {a : List Nat} : okL k a = true ↔ Ok a ∧ a.length ≤ k := by simp [okL, Ok]
theorem okL_all {k : Nat} {ls : List (List Nat)} (h : ls.all (okL k) = true) : (∀ a ∈ ls, Ok a) ∧ ∀ a ∈ ls, a.length ≤ k :=
  ⟨fun a ha => (okL_iff.1 (List.all_eq_true.1 h a ha)).1, fun a ha => (okL_iff.1 (List.all_eq_true.1 h a ha)).2⟩
def okRB (r : RT) : Bool := okL 35184372087808 r.2.1 && okL 35184372087808 r.2.2
theorem okRB_iff {r : RT} : okRB r = true ↔ okR r := by
  simp only [okRB, Bool.and_eq_true, okL_iff, okR]
  exact ⟨fun ⟨⟨a, b⟩, c, d⟩ => ⟨a, c, b, d⟩, fun ⟨a, c, b, d⟩ => ⟨⟨a, b⟩, c, d⟩⟩
theorem okRB_all {rs : List RT} (h : rs.all okRB = true) : ∀ r ∈ rs, okR r := fun r hr => okRB_iff.1 (List.all_eq_true.1 h r hr)
abbrev qR (q : Q3) : RT := (q.1, digs q.2.1, digs q.2.2)
def resQ : QE → RT × Int
  | .error e => ((false, [], []), e)
  | .ok q => (qR q, 0)
theorem resQ_D (x : QE) : (resD x).map AV.d = [AV.d (.ag [.b (resQ x).1.1, .sl (L (resQ x).1.2.1), .sl (L (resQ x).1.2.2)]), .d (.i .i64 (resQ x).2)] := by cases x <;> rfl
def nProduct (ls : List (List Nat)) : Option (List Nat) := if (ls.all (okL 40000) && decide (ls.length ≤ 10)) = true then some (digs (prodF ls 1)) else none
theorem nProduct_ok {ls : List (List Nat)} {r : List Nat} (h : nProduct ls = some r) : Fn Try.prog 73 [.sl (LL ls)] (.d (.sl (L r))) := by
  obtain ⟨hc, h⟩ := ite_n h
  cases h
  rw [Bool.and_eq_true, decide_eq_true_eq] at hc
  obtain ⟨h1, h2⟩ := okL_all hc.1
  exact prods_fn h1 h2 hc.2 (by decide)

def nSum (ls : List (List Nat)) : Option (List Nat) := if (ls.all (okL 100000) && decide (ls.length ≤ 1000)) = true then some (digs (ls.map val).sum) else none
theorem nSum_ok {ls : List (List Nat)} {r : List Nat} (h : nSum ls = some r) : Fn Try.prog 74 [.sl (LL ls)] (.d (.sl (L r))) := by
  obtain ⟨hc, h⟩ := ite_n h
  cases h
  rw [Bool.and_eq_true, decide_eq_true_eq] at hc
  obtain ⟨h1, h2⟩ := okL_all hc.1
  exact sum_fn h1 h2 hc.2 (by decide)

def nMinus (a : List Nat) (b : List Nat) : Option (List Nat × Bool) := if (okL 500000 a && okL 500000 b) = true then some ((digs (minN (val a) (val b)), decide (val b ≤ val a))) else none
theorem nMinus_ok {a : List Nat} {b : List Nat} {r : List Nat × Bool} (h : nMinus a b = some r) : Fn Try.prog 103 [.sl (L a), .sl (L b)] (.tup [.d (.sl (L r.1)), .d (.b r.2)]) := by
  obtain ⟨hc, h⟩ := ite_n h
  cases h
  rw [Bool.and_eq_true] at hc
  obtain ⟨⟨h1, h2⟩, h3, h4⟩ := And.intro (okL_iff.1 hc.1) (okL_iff.1 hc.2)
  exact Minus_fn h1 h3 (by omega) (by omega)

def nDivMod (a : List Nat) (b : List Nat) : Option (List Nat × List Nat × Bool) := if (okL 500000 a && okL 500000 b) = true then some ((digs (val a / val b), digs (remN (val a) (val b)), decide (val b ≠ 0))) else none
theorem nDivMod_ok {a : List Nat} {b : List Nat} {r : List Nat × List Nat × Bool} (h : nDivMod a b = some r) : Fn Try.prog 104 [.sl (L a), .sl (L b)] (.tup [.d (.sl (L r.1)), .d (.sl (L r.2.1)), .d (.b r.2.2)]) := by
  obtain ⟨hc, h⟩ := ite_n h
  cases h
  rw [Bool.and_eq_true] at hc
  obtain ⟨⟨h1, h2⟩, h3, h4⟩ := And.intro (okL_iff.1 hc.1) (okL_iff.1 hc.2)
  exact DivMod_fn h1 h3 (by omega) (by omega)

def nCompare (a : List Nat) (b : List Nat) : Option (Int) := if (okL 35184372087808 a && okL 35184372087808 b) = true then some (cmpN (val a) (val b)) else none
theorem nCompare_ok {a : List Nat} {b : List Nat} {r : Int} (h : nCompare a b = some r) : Fn Try.prog 92 [.sl (L a), .sl (L b)] (.d (.i .i64 r)) := by
  obtain ⟨hc, h⟩ := ite_n h
  cases h
  rw [Bool.and_eq_true] at hc
  obtain ⟨⟨h1, h2⟩, h3, h4⟩ := And.intro (okL_iff.1 hc.1) (okL_iff.1 hc.2)
  exact Compare_fn h1 h3 (by omega) (by omega)

def nPrint (a : List Nat) : Option (ByteArray) := if okL 1048576 a = true then some (bstr (decT (val a))) else none
theorem nPrint_ok {a : List Nat} {r : ByteArray} (h : nPrint a = some r) : Fn Try.prog 78 [.sl (L a)] (.d (.s r)) := by
  obtain ⟨hc, h⟩ := ite_n h
  cases h
  obtain ⟨h1, h2⟩ := okL_iff.1 hc
  exact Print_fn h1 (by omega)

def nParse (s : ByteArray) : Option (List Nat × Bool) := if s.size ≤ 5000 then some ((digs (parN (byts s)), parOK (byts s))) else none
theorem nParse_ok {s : ByteArray} {r : List Nat × Bool} (h : nParse s = some r) : Fn Try.prog 72 [.s s] (.tup [.d (.sl (L r.1)), .d (.b r.2)]) := by
  obtain ⟨hc, h⟩ := ite_n h
  cases h
  exact Parse_fn hc

def ratOne : Option (List Nat) := if True then some ([1]) else none
theorem ratOne_ok {r : List Nat} (h : ratOne = some r) : Fn Try.prog 66 [] (.own 65 (L r)) := by
  obtain ⟨hc, h⟩ := ite_n h
  cases h
  exact one_fn

def ref2One : Option (List Nat) := if True then some ([1]) else none
theorem ref2One_ok {r : List Nat} (h : ref2One = some r) : Fn Try.prog 69 [] (.own 65 (L r)) := by
  obtain ⟨hc, h⟩ := ite_n h
  cases h
  exact refOne_fn

def sEqualL (a : List Nat) (b : List Nat) : Option (Bool) := if (okL 1048576 a && okL 35184372087808 b) = true then some (decide (a = b)) else none
theorem sEqualL_ok {a : List Nat} {b : List Nat} {r : Bool} (h : sEqualL a b = some r) : Fn Try.prog 64 [.sl (L a), .sl (L b)] (.d (.b r)) := by
  obtain ⟨hc, h⟩ := ite_n h
  cases h
  simp only [Bool.and_eq_true, okL_iff] at hc
  exact Equal_fn a b hc.1.2 hc.1.1 hc.2.1

def ratRight (a : RT) : Option (Bool) := if okRB a = true then some (rightR a) else none
theorem ratRight_ok {a : RT} {r : Bool} (h : ratRight a = some r) : Fn Try.prog 19 [.ag [.b a.1, .sl (L a.2.1), .sl (L a.2.2)]] (.d (.b r)) := by
  obtain ⟨hc, h⟩ := ite_n h
  cases h
  obtain ⟨h1, h2, h3, h4⟩ := okRB_iff.1 hc
  exact RRight_fn h1 h2 h3 h4

def ref2Right (a : RT) : Option (Bool) := if okRB a = true then some (rightR a) else none
theorem ref2Right_ok {a : RT} {r : Bool} (h : ref2Right a = some r) : Fn Try.prog 20 [.ag [.b a.1, .sl (L a.2.1), .sl (L a.2.2)]] (.d (.b r)) := by
  obtain ⟨hc, h⟩ := ite_n h
  cases h
  obtain ⟨h1, h2, h3, h4⟩ := okRB_iff.1 hc
  exact refRR_fn h1 h2 h3 h4

def ratAllRight (rs : List RT) : Option (Bool) := if (rs.all okRB && decide (rs.length ≤ 1048576)) = true then some (rs.all rightR) else none
theorem ratAllRight_ok {rs : List RT} {r : Bool} (h : ratAllRight rs = some r) : Fn Try.prog 89 [.sl (RVs rs)] (.d (.b r)) := by
  obtain ⟨hc, h⟩ := ite_n h
  cases h
  rw [Bool.and_eq_true, decide_eq_true_eq] at hc
  exact right_fn (okRB_all hc.1) hc.2

def ratMake (b : Bool) (n : List Nat) (d : List Nat) : Option (RT × Int) := if (okL 100000 n && okL 100000 d) = true then some (resQ (makeE b (val n) (val d))) else none
theorem ratMake_ok {b : Bool} {n : List Nat} {d : List Nat} {r : RT × Int} (h : ratMake b n d = some r) : Fn Try.prog 16 [.b b, .sl (L n), .sl (L d)] (.tup [.d (.ag [.b r.1.1, .sl (L r.1.2.1), .sl (L r.1.2.2)]), .d (.i .i64 r.2)]) := by
  obtain ⟨hc, h⟩ := ite_n h
  cases h
  simp only [Bool.and_eq_true, okL_iff] at hc
  have := Make_fn (b := b) hc.1.1 hc.2.1 hc.1.2 hc.2.2 (by decide)
  rw [makeN_res, resQ_D] at this
  exact this

def ref2Same (a : RT) (b : RT) : Option (Bool) := if (decide (a.2.1.length ≤ 35184372087808) && decide (a.2.2.length ≤ 35184372087808)) = true then some (decide (a = b)) else none
theorem ref2Same_ok {a : RT} {b : RT} {r : Bool} (h : ref2Same a b = some r) : Fn Try.prog 25 [.ag [.b a.1, .sl (L a.2.1), .sl (L a.2.2)], .ag [.b b.1, .sl (L b.2.1), .sl (L b.2.2)]] (.d (.b r)) := by
  obtain ⟨hc, h⟩ := ite_n h
  cases h
  simp only [Bool.and_eq_true, decide_eq_true_eq] at hc
  have := refSame_fn a.1 b.1 a.2.1 a.2.2 b.2.1 b.2.2 hc.1 hc.2
  rw [decide_eq_decide.2 (show (a.1 = b.1 ∧ a.2.1 = b.2.1 ∧ a.2.2 = b.2.2) ↔ a = b by
    obtain ⟨a1, a2, a3⟩ := a; obtain ⟨b1, b2, b3⟩ := b; simp)] at this
  exact this

def ratOfInt (z : Int) : Option (RT) := if -9223372036854775808 ≤ z ∧ z ≤ 9223372036854775807 then some ((decide (z < 0), digs z.natAbs, [1])) else none
theorem ratOfInt_ok {z : Int} {r : RT} (h : ratOfInt z = some r) : Fn Try.prog 28 [.i .i64 z] (.d (.ag [.b r.1, .sl (L r.2.1), .sl (L r.2.2)])) := by
  obtain ⟨hc, h⟩ := ite_n h
  cases h
  exact OfInt_fn hc.1 hc.2

def ratAdd (rs : List RT) : Option (RT × Int) := if (rs.all okRB && decide (rs.length ≤ 1048576)) = true then some (resQ (addE rs)) else none
theorem ratAdd_ok {rs : List RT} {r : RT × Int} (h : ratAdd rs = some r) : Fn Try.prog 34 [.sl (RVs rs)] (.tup [.d (.ag [.b r.1.1, .sl (L r.1.2.1), .sl (L r.1.2.2)]), .d (.i .i64 r.2)]) := by
  obtain ⟨hc, h⟩ := ite_n h
  cases h
  rw [Bool.and_eq_true, decide_eq_true_eq] at hc
  have := RAdd_fn (okRB_all hc.1) hc.2
  rw [resQ_D] at this
  exact this

def ratMul (rs : List RT) : Option (RT × Int) := if (rs.all okRB && decide (rs.length ≤ 1048576)) = true then some (resQ (mulE rs)) else none
theorem ratMul_ok {rs : List RT} {r : RT × Int} (h : ratMul rs = some r) : Fn Try.prog 35 [.sl (RVs rs)] (.tup [.d (.ag [.b r.1.1, .sl (L r.1.2.1), .sl (L r.1.2.2)]), .d (.i .i64 r.2)]) := by
  obtain ⟨hc, h⟩ := ite_n h
  cases h
  rw [Bool.and_eq_true, decide_eq_true_eq] at hc
  have := RMul_fn (okRB_all hc.1) hc.2
  rw [resQ_D] at this
  exact this

def r1Compare (a : List Nat) (b : List Nat) : Option (Int) := if (okL 35184372087808 a && okL 35184372087808 b) = true then some (cmpN (val a) (val b)) else none
theorem r1Compare_ok {a : List Nat} {b : List Nat} {r : Int} (h : r1Compare a b = some r) : Fn Try.prog 68 [.sl (L a), .sl (L b)] (.d (.i .i64 r)) := by
  obtain ⟨hc, h⟩ := ite_n h
  cases h
  rw [Bool.and_eq_true] at hc
  obtain ⟨⟨h1, h2⟩, h3, h4⟩ := And.intro (okL_iff.1 hc.1) (okL_iff.1 hc.2)
  exact refCompare_fn h1 h3 (by omega) (by omega)

def r1Of (n : Int) : Option (List Nat) := if 0 ≤ n ∧ n < 18446744073709551616 then some (digs n.toNat) else none
theorem r1Of_ok {n : Int} {r : List Nat} (h : r1Of n = some r) : Fn Try.prog 85 [.i .u64 n] (.own 65 (L r)) := by
  obtain ⟨hc, h⟩ := ite_n h
  cases h
  have := refOf_fn (n := n.toNat) (by omega)
  rw [Int.toNat_of_nonneg hc.1] at this
  exact this

def r1Same (a : List Nat) (b : List Nat) : Option (Bool) := if a.length ≤ 35184372087808 then some (decide (a = b)) else none
theorem r1Same_ok {a : List Nat} {b : List Nat} {r : Bool} (h : r1Same a b = some r) : Fn Try.prog 80 [.sl (L a), .sl (L b)] (.d (.b r)) := by
  obtain ⟨hc, h⟩ := ite_n h
  cases h
  exact Same_fn a b hc

def r1Small (a : List Nat) : Option (Int × Bool) := if okL 1048576 a = true then some (((smallN a : Nat), decide (bitsN (val a) ≤ 63))) else none
theorem r1Small_ok {a : List Nat} {r : Int × Bool} (h : r1Small a = some r) : Fn Try.prog 83 [.sl (L a)] (.tup [.d (.i .i64 r.1), .d (.b r.2)]) := by
  obtain ⟨hc, h⟩ := ite_n h
  cases h
  obtain ⟨h1, h2⟩ := okL_iff.1 hc
  exact refSmall_fn h1 (by omega)

end Go.FL
/-
  Arguments that are numbers, opened.
-/
namespace Go.FL
open Go Go.Proofs

section
variable {H : Type} {enc : TypeId × Value → H} {W : World}
theorem op_limbs0 {n : Nat} : OpF enc Try.prog W (n + 1) 22 (fun a : List Nat => [.sl (L a)]) (fun a => okL 35184372087808 a = true) := by
  refine (op_slice (α := Int) (F := fun z => [.i .u32 z]) (sz := 1) (fun z => .i .u32 z) (by kernel_rfl : Try.prog.underlying 22 = some (.slice 65)) (by kernel_rfl) (by decide) (fun _ => rfl) (op_int (by kernel_rfl))).map fun zs hz => ?_
  obtain ⟨a, h1, h2⟩ := as_limbs zs hz.1
  refine ⟨a, okL_iff.2 ⟨h1, ?_⟩, by rw [← h2]⟩
  have h3 := hz.2
  rw [show Try.prog.bytesOf 65 = 4 by kernel_rfl, show reachBytes = 140737488351232 by decide] at h3
  have := congrArg List.length h2
  rw [List.length_map, L_length] at this
  omega
theorem op_limbs (n : Nat) : OpF enc Try.prog W n 22 (fun a : List Nat => [.sl (L a)]) (fun a => okL 35184372087808 a = true) := op_limbs0.mono (Nat.le_succ n)
theorem op_rat (n : Nat) : OpF enc Try.prog W n 25 (fun r : RT => [.b r.1, .sl (L r.2.1), .sl (L r.2.2)]) (fun r => okRB r = true) := by
  refine OpF.mono (n := n + 1) ((op_struct3 (t := 25) (T0 := 4) (T1 := 22) (T2 := 22) (s0 := 1) (s1 := 1) (s2 := 1) (by kernel_rfl) (by kernel_rfl) (by kernel_rfl) (op_bool (by kernel_rfl)) (by kernel_rfl) (op_limbs n) (by kernel_rfl) (op_limbs n)).map fun r hr => ?_) (Nat.le_succ n)
  exact ⟨r, by rw [okRB, hr.2.1, hr.2.2]; rfl, rfl⟩
end
end Go.FL
/-
  Plain laws, rat 1: right numbers are the rationals that fit.
-/
namespace Go.FL
open Go Go.Proofs

abbrev sg (b : Bool) (n : Nat) : Int := if b = true then -(n : Int) else n
def ofQ (p : Rat) : RT := (decide (p.num < 0), digs p.num.natAbs, digs p.den)
def small (n : Nat) : Prop := (digs n).length ≤ 32
instance (n : Nat) : Decidable (small n) := inferInstanceAs (Decidable (_ ≤ _))
def fits (p : Rat) : Prop := small p.num.natAbs ∧ small p.den
instance (p : Rat) : Decidable (fits p) := inferInstanceAs (Decidable (_ ∧ _))
abbrev bad (e : Int) : RT × Int := ((false, [], []), e)
def resR (p : Rat) : RT × Int := if fits p then (ofQ p, 0) else bad 8
theorem sg_natAbs (b : Bool) (n : Nat) : (sg b n).natAbs = n := by cases b <;> simp [sg]
theorem sg_neg (b : Bool) (n : Nat) : decide (sg b n < 0) = (b && decide (n ≠ 0)) := by
  cases b with
  | false => simp [sg]
  | true => simp only [sg, if_true, Bool.true_and]; apply decide_eq_decide.2; omega
theorem digs_inj {m n : Nat} (h : digs m = digs n) : m = n := by rw [← val_digs m, h, val_digs]
/-- A rational, as its parts. -/
abbrev q3 (p : Rat) : Q3 := (decide (p.num < 0), p.num.natAbs, p.den)
def lowR (p : Rat) : QE := if fits p then .ok (q3 p) else .error 8
theorem resQ_lowR (p : Rat) : resQ (lowR p) = resR p := by
  unfold lowR resR
  split <;> rfl
theorem lowE_rat {b : Bool} {n d : Nat} (hd : d ≠ 0) : lowE b n d = lowR (mkRat (sg b n) d) := by
  have hg : Nat.gcd n d ≠ 0 := fun h => hd (Nat.eq_zero_of_gcd_eq_zero_right h)
  have hnum : (mkRat (sg b n) d).num = sg b (n / Nat.gcd n d) := by
    rw [Rat.num_mkRat, if_neg hd, sg_natAbs, Nat.gcd_comm]
    cases b with
    | false => simp [sg]
    | true =>
      simp only [sg, if_true]
      rw [Int.neg_ediv_of_dvd (Int.natCast_dvd_natCast.2 (Nat.gcd_dvd_left n d))]
      simp
  have hden : (mkRat (sg b n) d).den = d / Nat.gcd n d := by
    rw [Rat.den_mkRat, if_neg hd, sg_natAbs, Nat.gcd_comm]
  have hd' : 32 < (digs (d / Nat.gcd n d)).length ↔ ¬ small (d / Nat.gcd n d) := by simp only [small]; omega
  have hn' : 32 < (digs (n / Nat.gcd n d)).length ↔ ¬ small (n / Nat.gcd n d) := by simp only [small]; omega
  have hf : fits (mkRat (sg b n) d) ↔ small (n / Nat.gcd n d) ∧ small (d / Nat.gcd n d) := by
    simp only [fits, hnum, hden, sg_natAbs]
  unfold lowE lowR
  rw [if_neg hg]
  by_cases h : small (n / Nat.gcd n d) ∧ small (d / Nat.gcd n d)
  · rw [if_neg (by rw [hn', hd']; intro h2; exact h2.elim (fun a => a h.1) (fun a => a h.2)), if_pos (hf.2 h)]
    simp only [q3, hnum, sg_natAbs, hden, sg_neg]
  · rw [if_pos (by rw [hn', hd']; by_cases h1 : small (n / Nat.gcd n d); exact .inr (fun h2 => h ⟨h1, h2⟩); exact .inl h1), if_neg (fun h2 => h (hf.1 h2))]
theorem right_iff {r : RT} : rightR r = true ↔ ∃ p, fits p ∧ r = ofQ p := by
  obtain ⟨b, n, d⟩ := r
  simp only [rightR, rightL, decide_eq_true_eq]
  constructor
  · rintro ⟨h1, h2, h3, h4, h5, h6, h7⟩
    have hd0 : val d ≠ 0 := fun h => h5 (by rw [← h2, h, digs_zero])
    refine ⟨⟨sg b (val n), val d, hd0, by rw [Nat.Coprime, sg_natAbs]; exact h7⟩, ⟨?_, ?_⟩, ?_⟩
    · show small (sg b (val n)).natAbs
      rw [sg_natAbs, small, h1]; exact h3
    · show small (val d)
      rw [small, h2]; exact h4
    · simp only [ofQ, sg_natAbs, h1, h2]
      rw [sg_neg]
      congr 1
      cases b with
      | false => rfl
      | true =>
        have : n ≠ [] := fun h => by have := h6 h; cases this
        have hn0 : val n ≠ 0 := fun h => this (by rw [← h1, h, digs_zero])
        simp [hn0]
  · rintro ⟨p, ⟨h1, h2⟩, h⟩
    simp only [ofQ, Prod.mk.injEq] at h
    obtain ⟨rfl, rfl, rfl⟩ := h
    refine ⟨by rw [val_digs], by rw [val_digs], h1, h2, ?_, ?_, ?_⟩
    · intro h
      have := digs_nil_iff.1 h
      exact p.den_nz this
    · intro h
      have := digs_nil_iff.1 h
      exact decide_eq_false (by omega)
    · rw [val_digs, val_digs]; exact p.reduced
theorem ofQ_right {p : Rat} (h : fits p) : rightR (ofQ p) = true := right_iff.2 ⟨p, h, rfl⟩
theorem okL_digs {k n : Nat} (h : (digs n).length ≤ k) : okL k (digs n) = true := okL_iff.2 ⟨digs_ok n, h⟩
theorem small_ok {k n : Nat} (h : small n) (hk : 32 ≤ k) : okL k (digs n) = true := okL_digs (Nat.le_trans h hk)
theorem ofQ_okRB {p : Rat} (h : fits p) : okRB (ofQ p) = true := by
  simp only [okRB, Bool.and_eq_true]
  exact ⟨small_ok h.1 (by decide), small_ok h.2 (by decide)⟩
/-- A number that comes as it may: not right, or a rational. -/
theorem right_cases {r : RT} : rightR r = false ∨ ∃ p, fits p ∧ r = ofQ p := by
  by_cases h : rightR r = true
  · exact .inr (right_iff.1 h)
  · exact .inl (by simpa using h)
theorem one_digs : digs 1 = [1] := one_limb (n := 1) (by decide) (by decide)
theorem resR_fits {p : Rat} (h : fits p) : resR p = (ofQ p, 0) := if_pos h
/-- What a number, as it comes, is worth. -/
abbrev valQ (q : Q3) : Rat := mkRat (sg q.1 q.2.1) q.2.2
theorem mkRat_eq {a c : Int} {b d : Nat} (hb : b ≠ 0) (hd : d ≠ 0) (h : a * d = c * b) : mkRat a b = mkRat c d := (Rat.mkRat_eq_iff hb hd).2 h
theorem plusN_rat {x y : Q3} (hx : x.2.2 ≠ 0) (hy : y.2.2 ≠ 0) : valQ (plusN x y) = valQ x + valQ y ∧ (plusN x y).2.2 ≠ 0 := by
  obtain ⟨b, n, d⟩ := x
  obtain ⟨c, m, e⟩ := y
  simp only at hx hy
  have hde : d * e ≠ 0 := Nat.mul_ne_zero hx hy
  rw [show valQ (b, n, d) + valQ (c, m, e) = mkRat (sg b n * e + sg c m * d) (d * e) from Rat.mkRat_add_mkRat _ _ hx hy]
  have key : ∀ (q : Q3), q.2.2 = d * e → sg q.1 q.2.1 = sg b n * e + sg c m * d → valQ q = mkRat (sg b n * e + sg c m * d) (d * e) ∧ q.2.2 ≠ 0 := fun q h1 h2 => by
    rw [valQ, h1, h2]; exact ⟨rfl, hde⟩
  unfold plusN
  simp only
  split
  · rename_i h
    subst h
    refine key _ rfl ?_
    cases b <;> simp [sg]
    rw [Int.neg_add, Int.neg_mul, Int.neg_mul]
  · rename_i h
    split
    · rename_i h2
      refine key _ rfl ?_
      cases b <;> cases c <;> simp [sg] at h ⊢
      · rw [Int.ofNat_sub h2]; simp [Int.neg_mul]; omega
      · rw [Int.ofNat_sub h2]; simp [Int.neg_mul]; omega
    · rename_i h2
      have h3 : n * e ≤ m * d := by omega
      refine key _ rfl ?_
      cases b <;> cases c <;> simp [sg] at h ⊢
      · rw [Int.ofNat_sub h3]; simp [Int.neg_mul]; omega
      · rw [Int.ofNat_sub h3]; simp [Int.neg_mul]; omega
theorem timesN_rat {x y : Q3} (hx : x.2.2 ≠ 0) (hy : y.2.2 ≠ 0) : valQ (timesN x y) = valQ x * valQ y ∧ (timesN x y).2.2 ≠ 0 := by
  obtain ⟨b, n, d⟩ := x
  obtain ⟨c, m, e⟩ := y
  refine ⟨?_, Nat.mul_ne_zero hx hy⟩
  rw [show valQ (b, n, d) * valQ (c, m, e) = mkRat (sg b n * sg c m) (d * e) from Rat.mkRat_mul_mkRat _ _ _ _]
  have h : sg (b != c) (n * m) = sg b n * sg c m := by cases b <;> cases c <;> simp [sg, Int.neg_mul, Int.mul_neg]
  simp only [timesN, valQ, h]
theorem valQ_of (p : Rat) : valQ (decide (p.num < 0), p.num.natAbs, p.den) = p := by
  have : sg (decide (p.num < 0)) p.num.natAbs = p.num := by
    simp only [sg, decide_eq_true_eq]
    split <;> omega
  rw [valQ, this, Rat.mkRat_self]
theorem rq_of (p : Rat) : rq (ofQ p) = (decide (p.num < 0), p.num.natAbs, p.den) := by simp [rq, ofQ, val_digs]
end Go.FL
/-
  GP: rat: differences, quotients, rounding.
-/
namespace Go.FL
open Go Go.Proofs

def rat_Sign (a0 : RT) : Option (Int) := ((ratRight a0).bind fun x1 => (if ((!x1) || (decide (((List.length a0.2.1 : Nat) : Int) = 0))) = true then (some (0)) else (if a0.1 = true then (some ((-1))) else (some (1)))))
theorem rat_Sign_ok {a0 : RT} {r : Int} (h : rat_Sign a0 = some r) :
    Fn Try.prog 30 [.ag [.b a0.1, .sl (L a0.2.1), .sl (L a0.2.2)]] (.d (.i .i64 r)) := by
  unfold rat_Sign at h
  refine Fn.of (rs := [.tmp 2]) (nt := 16) Try.func30 rfl rfl rfl (by simp) rfl ?_
  refine .seq ?_
  refine .region ?_
  refine vk (vbx) ?_
  refine asd ?_
  refine rn ?_
  refine .gh (Gh.keep [1, 2] rfl) ?_
  refine .seq ?_
  refine .block ?_
  refine .seq ?_
  obtain ⟨x1, hx1, h⟩ := bnd h
  refine AW.mr (σ := Unit) (fun _ => True) (fun _ => [(1, .d (.ptr [.b a0.1, .sl (L a0.2.1), .sl (L a0.2.2)])), (2, .d (.i .i64 0)), (3, .d (.b ((!x1) || (decide (((List.length a0.2.1 : Nat) : Int) = 0)))))]) (fun _ => []) ?_ ?_
  · skip
    refine .region ?_
    refine vk (vlda gA_R gS_R) ?_
    refine vk (vcl0 (ratRight_ok hx1) Try.call19) ?_
    refine vk (vnt) ?_
    by_cases hc : x1 = true
    · have hb0 : (!x1) = false := (ntf hc)
      refine vk (VOK.lit (vmvd) hb0) ?_
      refine vk (vfa gF_R_1) ?_
      refine vk (vldp ga_L) ?_
      refine vk (vlnE (L_length _) (L_sz _) gu_L) ?_
      refine vk (vbi) ?_
      refine vk (vpkd) ?_
      refine asd ?_
      refine RL.gh (Gh.keep [1, 2, 3] rfl) ?_
      refine .nil ?_
      exact jr () trivial (by simp only [hb0]; rfl)
    have hb0 : (!x1) = true := (ntt (bf hc))
    refine vk (VOK.lit (vmvd) hb0) ?_
    refine gf ?_
    refine gf ?_
    refine gf ?_
    refine gf ?_
    refine vk (vpkd) ?_
    refine asd ?_
    refine RL.gh (Gh.keep [1, 2, 3] rfl) ?_
    refine .nil ?_
    exact jr () trivial (by simp only [hb0]; rfl)
  rintro _ _
  by_cases hc : ((!x1) || (decide (((List.length a0.2.1 : Nat) : Int) = 0))) = true
  · replace h := ite_t hc h
    refine cnt hc ?_
    refine .seq ?_
    refine .region ?_
    refine asd ?_
    refine rn ?_
    refine .gh (Gh.keep [2] rfl) ?_
    refine .ret ?_
    cases h
    exact ⟨rfl, rfl⟩
  replace h := ite_f hc h
  refine cnf (bf hc) ?_
  refine .seq ?_
  refine .region ?_
  refine vk (vfa gF_R_0) ?_
  refine vk (vldp ga_bool) ?_
  refine asd ?_
  refine rn ?_
  refine .gh (Gh.keep [2, 13] rfl) ?_
  by_cases hc : a0.1 = true
  · replace h := ite_t hc h
    refine cnt hc ?_
    refine .seq ?_
    refine .region ?_
    refine asd ?_
    refine rn ?_
    refine .gh (Gh.keep [2] rfl) ?_
    refine .ret ?_
    cases h
    exact ⟨rfl, rfl⟩
  replace h := ite_f hc h
  refine cnf (bf hc) ?_
  refine .skip ?_
  show AW _ _ _ _ _ _
  refine .seq ?_
  refine .region ?_
  refine asd ?_
  refine rn ?_
  refine .gh (Gh.keep [2] rfl) ?_
  refine .ret ?_
  cases h
  exact ⟨rfl, rfl⟩

def rat_IsInt (a0 : RT) : Option (Bool) := ((ratRight a0).bind fun x1 => (Option.bind ((if x1 = true then (ratOne.bind fun x3 => ((sEqualL a0.2.2 x3).bind fun x4 => (some x4))) else (some false)) : Option (Bool)) fun (z1 : Bool) => (some (z1))))
theorem rat_IsInt_ok {a0 : RT} {r : Bool} (h : rat_IsInt a0 = some r) :
    Fn Try.prog 32 [.ag [.b a0.1, .sl (L a0.2.1), .sl (L a0.2.2)]] (.d (.b r)) := by
  unfold rat_IsInt at h
  refine Fn.of (rs := [.tmp 2]) (nt := 11) Try.func32 rfl rfl rfl (by simp) rfl ?_
  refine .seq ?_
  refine .region ?_
  refine vk (vbx) ?_
  refine asd ?_
  refine rn ?_
  refine .gh (Gh.keep [1, 2] rfl) ?_
  refine .seq ?_
  obtain ⟨x1, hx1, h⟩ := bnd h
  obtain ⟨z1, hz, h⟩ := bnd h
  refine AW.mr (σ := Unit) (fun _ => True) (fun _ => [(2, .d (.b z1))]) (fun _ => []) ?_ ?_
  · skip
    refine .drawn 8 mixed (by kernel_rfl) ?_
    refine dv (vlda gA_R gS_R) ?_
    refine dv (vcl0 (ratRight_ok hx1) Try.call19) ?_
    by_cases hc : x1 = true
    · replace hz := ite_t hc hz
      have hb0 : x1 = true := hc
      refine dv (VOK.lit (vmvd) hb0) ?_
      refine dv (vfa gF_R_2) ?_
      refine dv (vldp ga_L) ?_
      obtain ⟨x3, hx3, hz⟩ := bnd hz
      refine dv ((vcl0 (ratOne_ok hx3) Try.call66).deep) ?_
      obtain ⟨x4, hx4, hz⟩ := bnd hz
      refine dv (vcl0 (sEqualL_ok hx4) Try.call64) ?_
      refine dv (vpkd) ?_
      refine dz ?_
      refine asd ?_
      refine RL.gh (Gh.keep [2] rfl) ?_
      refine .nil ?_
      cases hz
      exact jr () trivial
    replace hz := ite_f hc hz
    have hb0 : x1 = false := (bf hc)
    refine dv (VOK.lit (vmvd) hb0) ?_
    refine dgf ?_
    refine dgf ?_
    refine dgf ?_
    refine dgf ?_
    refine dv (vpkd) ?_
    refine dz ?_
    refine asd ?_
    refine RL.gh (Gh.keep [2] rfl) ?_
    refine .nil ?_
    cases hz
    exact jr () trivial
  rintro _ _
  refine .ret ?_
  cases h
  exact ⟨rfl, rfl⟩

def rat_natural (a0 : RT) : Option (Bool) := ((rat_IsInt a0).bind fun x1 => (some ((x1 && (!a0.1)))))
theorem rat_natural_ok {a0 : RT} {r : Bool} (h : rat_natural a0 = some r) :
    Fn Try.prog 102 [.ag [.b a0.1, .sl (L a0.2.1), .sl (L a0.2.2)]] (.d (.b r)) := by
  unfold rat_natural at h
  refine Fn.of (rs := [.tmp 2]) (nt := 10) Try.func102 rfl rfl rfl (by simp) rfl ?_
  refine .seq ?_
  refine .region ?_
  refine vk (vbx) ?_
  refine asd ?_
  refine rn ?_
  refine .gh (Gh.keep [1, 2] rfl) ?_
  refine .seq ?_
  obtain ⟨x1, hx1, h⟩ := bnd h
  refine AW.mr (σ := Unit) (fun _ => True) (fun _ => [(2, .d (.b (x1 && (!a0.1))))]) (fun _ => []) ?_ ?_
  · skip
    refine .region ?_
    refine vk (vlda gA_R gS_R) ?_
    refine vk (vcl0 (rat_IsInt_ok hx1) Try.call32) ?_
    by_cases hc : x1 = true
    · have hb0 : x1 = true := hc
      refine vk (VOK.lit (vmvd) hb0) ?_
      refine vk (vfa gF_R_0) ?_
      refine vk (vldp ga_bool) ?_
      refine vk (vnt) ?_
      refine vk (vpkd) ?_
      refine asd ?_
      refine RL.gh (Gh.keep [2] rfl) ?_
      refine .nil ?_
      exact jr () trivial (by simp only [hb0]; rfl)
    have hb0 : x1 = false := (bf hc)
    refine vk (VOK.lit (vmvd) hb0) ?_
    refine gf ?_
    refine gf ?_
    refine gf ?_
    refine vk (vpkd) ?_
    refine asd ?_
    refine RL.gh (Gh.keep [2] rfl) ?_
    refine .nil ?_
    exact jr () trivial (by simp only [hb0]; rfl)
  rintro _ _
  refine .ret ?_
  cases h
  exact ⟨rfl, rfl⟩
end Go.FL
/-
  GP: rat: comparisons, residues, powers, texts.
-/
namespace Go.FL
open Go Go.Proofs

def rat_Binomial_l1 (a1 : RT) (z6 : (List Nat)) : Nat → RT → Int → (List Nat) → (List Nat) → Option (RT × Int)
  | 0, _, _, _, _ => none
  | k + 1, s11, s12, s13, s14 => ((nCompare s14 z6).bind fun x15 => (if x15 ≤ 0 then (ratOne.bind fun x16 => ((nSum ([a1.2.1, x16])).bind fun x17 => ((nMinus x17 s14).bind fun x18 => ((nProduct ([s13, x18.1])).bind fun x19 => ((nDivMod x19 s14).bind fun x20 => (if 32 < ((List.length x20.1 : Nat) : Int) then (some ((false, [], []), 8)) else (ratOne.bind fun x21 => ((nSum ([s14, x21])).bind fun x22 => (rat_Binomial_l1 a1 z6 k s11 s12 x20.1 x22))))))))) else (ratOne.bind fun x23 => (some ((false, s13, x23), 0)))))
def rat_Binomial (a0 : RT) (a1 : RT) : Option (RT × Int) := ((ratAllRight ([a0, a1])).bind fun x1 => (if x1 = true then ((rat_natural a0).bind fun x2 => (Option.bind ((if x2 = true then ((rat_natural a1).bind fun x4 => (some (!x4))) else (some true)) : Option (Bool)) fun (z2 : Bool) => (if z2 = true then (some ((false, [], []), 3)) else ((nMinus a1.2.1 a0.2.1).bind fun x5 => (jn (fun (z6 : (List Nat)) => (ratOne.bind fun x9 => (ratOne.bind fun x10 => (rat_Binomial_l1 a1 z6 FUEL (false, [], []) 0 x9 x10)))) fun K0 => (if x5.2 = true then ((nCompare x5.1 a0.2.1).bind fun x7 => (if x7 < 0 then (K0 x5.1) else (K0 a0.2.1))) else ((ratOfInt 0).bind fun x8 => (some (x8, 0))))))))) else (some ((false, [], []), 22))))
theorem rat_Binomial_ok {a0 : RT} {a1 : RT} {r : RT × Int} (h : rat_Binomial a0 a1 = some r) :
    Fn Try.prog 46 [.ag [.b a0.1, .sl (L a0.2.1), .sl (L a0.2.2)], .ag [.b a1.1, .sl (L a1.2.1), .sl (L a1.2.2)]] (.tup [.d (.ag [.b r.1.1, .sl (L r.1.2.1), .sl (L r.1.2.2)]), .d (.i .i64 r.2)]) := by
  unfold rat_Binomial at h
  refine Fn.ofC (rs := [.cell 4 25, .tmp 5]) (nt := 86) Try.func46 rfl rfl rfl (by simp) rfl ?_
  refine .seq ?_
  refine .region ?_
  refine vk (vbx) ?_
  refine vk (vbx) ?_
  refine vk (van (zero_of gI_R) gZ_R) ?_
  refine asd ?_
  refine rn ?_
  refine .gh (Gh.keep [2, 3, 4, 5] rfl) ?_
  refine .seq ?_
  refine .block ?_
  refine .seq ?_
  refine .region ?_
  refine vk (vlda gA_R gS_R) ?_
  refine vk (vlda gA_R gS_R) ?_
  refine vk ((vbsl (RVs_flat [a0, a1]) ge_RVs).deep) ?_
  obtain ⟨x1, hx1, h⟩ := bnd h
  refine vk (vcl0 (ratAllRight_ok hx1) Try.call89) ?_
  refine vk (vnt) ?_
  refine asd ?_
  refine rn ?_
  refine .gh (Gh.keep [2, 3, 4, 5, 13] rfl) ?_
  by_cases hc : x1 = true
  · replace h := ite_t hc h
    refine cnf (ntf hc) ?_
    refine .seq ?_
    obtain ⟨x2, hx2, h⟩ := bnd h
    obtain ⟨z2, hz, h⟩ := bnd h
    refine AW.mr (σ := Unit) (fun _ => True) (fun _ => [(2, .d (.ptr [.b a0.1, .sl (L a0.2.1), .sl (L a0.2.2)])), (3, .d (.ptr [.b a1.1, .sl (L a1.2.1), .sl (L a1.2.2)])), (4, .nb [.b false, .sl (L []), .sl (L [])]), (5, .d (.i .i64 0)), (20, .d (.b z2))]) (fun _ => []) ?_ ?_
    · skip
      refine .region ?_
      refine vk (vlda gA_R gS_R) ?_
      refine vk (vcl0 (rat_natural_ok hx2) Try.call102) ?_
      refine vk (vnt) ?_
      by_cases hc : x2 = true
      · replace hz := ite_t hc hz
        have hb0 : (!x2) = false := (ntf hc)
        refine vk (VOK.lit (vmvd) hb0) ?_
        refine vk (vlda gA_R gS_R) ?_
        obtain ⟨x4, hx4, hz⟩ := bnd hz
        refine vk (vcl0 (rat_natural_ok hx4) Try.call102) ?_
        refine vk (vnt) ?_
        refine vk (vpkd) ?_
        refine asd ?_
        refine RL.gh (Gh.keep [2, 3, 4, 5, 20] rfl) ?_
        refine .nil ?_
        cases hz
        exact jr () trivial
      replace hz := ite_f hc hz
      have hb0 : (!x2) = true := (ntt (bf hc))
      refine vk (VOK.lit (vmvd) hb0) ?_
      refine gf ?_
      refine gf ?_
      refine gf ?_
      refine vk (vpkd) ?_
      refine asd ?_
      refine RL.gh (Gh.keep [2, 3, 4, 5, 20] rfl) ?_
      refine .nil ?_
      cases hz
      exact jr () trivial
    rintro _ _
    by_cases hc : z2 = true
    · replace h := ite_t hc h
      refine cnt hc ?_
      refine .seq ?_
      refine .region ?_
      refine vk (vbd gP_R gI_R gZ_R) ?_
      refine stn ?_ gS_R (by decide)
      refine asd ?_
      refine rn ?_
      refine .gh (Gh.keep [2, 3, 4, 5] rfl) ?_
      refine .ret ?_
      cases h
      exact ⟨_, _, ⟨.inr rfl, gA_R, gS_R, (by decide : (0 : Nat) < 3)⟩, rfl, rfl⟩
    replace h := ite_f hc h
    refine cnf (bf hc) ?_
    refine .skip ?_
    show AW _ _ _ _ _ _
    refine .seq ?_
    refine .region ?_
    refine vk (vfa gF_R_1) ?_
    refine vk (vldp ga_L) ?_
    refine asd ?_
    refine rn ?_
    refine .gh (Gh.keep [3, 4, 5, 6] rfl) ?_
    refine .seq ?_
    refine .region ?_
    refine vk (vfa gF_R_1) ?_
    refine vk (vldp ga_L) ?_
    refine vk (vmvd) ?_
    obtain ⟨x5, hx5, h⟩ := bnd h
    refine vk (VOK.tupd (vs := [.sl (L x5.1), .b x5.2]) (vcl0 (nMinus_ok hx5) Try.call103)) ?_
    refine vk (vmvd) ?_
    refine vk (vex) ?_
    refine vk (vex) ?_
    refine asd ?_
    refine asd ?_
    refine rn ?_
    refine .gh (Gh.keep [3, 4, 5, 6, 7, 8] rfl) ?_
    obtain ⟨K0, hK0, h⟩ := jn_out h
    refine AW.mj (σ := (List Nat)) (fun p => K0 p = some r) (fun p => [(3, .d (.ptr [.b a1.1, .sl (L a1.2.1), .sl (L a1.2.2)])), (4, .nb [.b false, .sl (L []), .sl (L [])]), (5, .d (.i .i64 0)), (6, .d (.sl (L p)))]) (fun p => []) ?_ ?_
    · skip
      refine .block ?_
      refine .seq ?_
      refine .region ?_
      refine vk (vmvd) ?_
      refine vk (vnt) ?_
      refine asd ?_
      refine rn ?_
      refine .gh (Gh.keep [3, 4, 5, 6, 7, 39] rfl) ?_
      by_cases hc : x5.2 = true
      · replace h := ite_t hc h
        refine cnf (ntf hc) ?_
        refine .seq ?_
        refine .region ?_
        refine vk (vmvd) ?_
        refine vk (vmvd) ?_
        obtain ⟨x7, hx7, h⟩ := bnd h
        refine vk (vcl0 (nCompare_ok hx7) Try.call92) ?_
        refine vk (vbi) ?_
        refine asd ?_
        refine rn ?_
        refine .gh (Gh.keep [3, 4, 5, 6, 7, 43] rfl) ?_
        by_cases hc : x7 < 0
        · replace h := ite_t hc h
          refine cnt (decide_eq_true hc) ?_
          refine .region ?_
          refine vk (vmvd) ?_
          refine asd ?_
          refine RL.gh (Gh.keep [3, 4, 5, 6] rfl) ?_
          refine .nil ?_
          exact jr (x5.1) h
        replace h := ite_f hc h
        refine cnf (decide_eq_false hc) ?_
        refine .gh (Gh.keep [3, 4, 5, 6] rfl) ?_
        refine .skip ?_
        exact jr (a0.2.1) h
      replace h := ite_f hc h
      refine cnt (ntt (bf hc)) ?_
      refine .seq ?_
      refine .region ?_
      obtain ⟨x8, hx8, h⟩ := bnd h
      refine vk (vcl0 (ratOfInt_ok hx8) Try.call28) ?_
      refine stn ?_ gS_R (by decide)
      refine asd ?_
      refine rn ?_
      refine .gh (Gh.keep [3, 4, 5, 6] rfl) ?_
      refine .ret ?_
      cases h
      exact ⟨_, _, ⟨.inr rfl, gA_R, gS_R, (by decide : (0 : Nat) < 3)⟩, rfl, rfl⟩
    rintro z6 h
    try dsimp only at h ⊢
    subst hK0
    refine .seq ?_
    refine .region ?_
    obtain ⟨x9, hx9, h⟩ := bnd h
    refine vk ((vcl0 (ratOne_ok hx9) Try.call66).deep) ?_
    refine asd ?_
    refine rn ?_
    refine .gh (Gh.keep [3, 4, 5, 6, 9] rfl) ?_
    refine .seq ?_
    refine .seq ?_
    refine .region ?_
    obtain ⟨x10, hx10, h⟩ := bnd h
    refine vk ((vcl0 (ratOne_ok hx10) Try.call66).deep) ?_
    refine asd ?_
    refine rn ?_
    refine .gh (Gh.keep [3, 4, 5, 6, 9, 10] rfl) ?_
    refine .block ?_
    refine .loop (.gh (Gh.keep [3, 4, 5, 6, 9, 10] rfl) ?_)
    refine AL.ind (σ := Nat × RT × Int × (List Nat) × (List Nat)) (m := fun p => p.1) (e := fun p => [(3, .d (.ptr [.b a1.1, .sl (L a1.2.1), .sl (L a1.2.2)])), (4, .nb [.b p.2.1.1, .sl (L p.2.1.2.1), .sl (L p.2.1.2.2)]), (5, .d (.i .i64 p.2.2.1)), (6, .d (.sl (L z6))), (9, .d (.sl (L p.2.2.2.1))), (10, .d (.sl (L p.2.2.2.2)))]) (h := fun p => []) (I := fun p => rat_Binomial_l1 a1 z6 p.1 p.2.1 p.2.2.1 p.2.2.2.1 p.2.2.2.2 = some r) ?_ (FUEL, (false, [], []), 0, x9, x10) h
    rintro ⟨k, s11, s12, s13, s14⟩ h ih
    dsimp only at h ih ⊢
    rcases k with _ | k
    · rw [rat_Binomial_l1] at h; cases h
    rw [rat_Binomial_l1] at h
    refine .seq ?_
    refine .seq ?_
    refine .region ?_
    refine vk (vmvd) ?_
    refine vk (vmvd) ?_
    obtain ⟨x15, hx15, h⟩ := bnd h
    refine vk (vcl0 (nCompare_ok hx15) Try.call92) ?_
    refine vk (vbi) ?_
    refine rn ?_
    refine .gh (Gh.keep [3, 4, 5, 6, 9, 10, 54] rfl) ?_
    by_cases hc : x15 ≤ 0
    · replace h := ite_t hc h
      refine cnt (decide_eq_true hc) ?_
      refine .skip ?_
      show AW _ _ _ _ _ _
      refine .seq ?_
      refine .block ?_
      refine .seq ?_
      obtain ⟨x16, hx16, h⟩ := bnd h
      obtain ⟨x17, hx17, h⟩ := bnd h
      obtain ⟨x18, hx18, h⟩ := bnd h
      refine .drawnF 10 [9] [(11, .d (.sl (L x18.1)))] [] mixed (by kernel_rfl) rfl ?_
      refine dv (vfa gF_R_1) ?_
      refine dv (vldp ga_L) ?_
      refine dv ((vcl0 (ratOne_ok hx16) Try.call66).deep) ?_
      refine dv ((vbsl (LL_flat [a1.2.1, x16]) ge_LL).deep) ?_
      refine dv (vcl0 (nSum_ok hx17) Try.call74) ?_
      refine dv (vmvd) ?_
      refine dv (VOK.tupd (vs := [.sl (L x18.1), .b x18.2]) (vcl0 (nMinus_ok hx18) Try.call103)) ?_
      refine dv (vmvd) ?_
      refine dv (vex) ?_
      refine dv (vex) ?_
      refine dz ?_
      refine ⟨?_, ?_, ?_⟩
      · intro k hk
        simp only [List.mem_cons, List.not_mem_nil, or_false] at hk
        subst hk
        exact ⟨_, _, _, rfl, rfl, rfl, rfl, rfl, rfl, vex⟩
      · intro om e hom hge
        cases hom
        exact ok_asd rfl ((hge 67 (fun k hk v hv => by
            simp only [List.mem_cons, List.not_mem_nil, or_false] at hk
            subst hk; exact (by decide : ¬ (some 68 = some 67)) (congrArg (Option.map Prod.fst) hv))).trans rfl) rfl ((congrArg isOwn (hge 11 (fun k hk v hv => by
            simp only [List.mem_cons, List.not_mem_nil, or_false] at hk
            subst hk; exact (by decide : ¬ (some 68 = some 11)) (congrArg (Option.map Prod.fst) hv)))).trans rfl) rfl ⟨rfl, rfl⟩
      refine asd ?_
      refine rn ?_
      refine .gh (Gh.keep [3, 4, 5, 6, 9, 10, 11] rfl) ?_
      refine .seq ?_
      refine .region ?_
      refine vk (vmvd) ?_
      refine vk (vmvd) ?_
      refine vk ((vbsl (LL_flat [s13, x18.1]) ge_LL).deep) ?_
      obtain ⟨x19, hx19, h⟩ := bnd h
      refine vk (vcl0 (nProduct_ok hx19) Try.call73) ?_
      refine vk (vmvd) ?_
      obtain ⟨x20, hx20, h⟩ := bnd h
      refine vk (VOK.tupd (vs := [.sl (L x20.1), .sl (L x20.2.1), .b x20.2.2]) (vcl0 (nDivMod_ok hx20) Try.call104)) ?_
      refine vk (vmvd) ?_
      refine vk (vex) ?_
      refine vk (vex) ?_
      refine vk (vex) ?_
      refine asd ?_
      refine rn ?_
      refine .gh (Gh.keep [3, 4, 5, 6, 9, 10] rfl) ?_
      refine .seq ?_
      refine .region ?_
      refine vk (vmvd) ?_
      refine vk (vlnE (L_length _) (L_sz _) gu_L) ?_
      refine vk (vbi) ?_
      refine rn ?_
      refine .gh (Gh.keep [3, 4, 5, 6, 9, 10, 81] rfl) ?_
      by_cases hc : 32 < ((List.length x20.1 : Nat) : Int)
      · replace h := ite_t hc h
        refine cnt (decide_eq_true hc) ?_
        refine .seq ?_
        refine .region ?_
        refine vk (vbd gP_R gI_R gZ_R) ?_
        refine stn ?_ gS_R (by decide)
        refine asd ?_
        refine rn ?_
        refine .gh (Gh.keep [3, 4, 5, 6, 9, 10] rfl) ?_
        refine .ret ?_
        cases h
        exact ⟨_, _, ⟨.inr rfl, gA_R, gS_R, (by decide : (0 : Nat) < 3)⟩, rfl, rfl⟩
      replace h := ite_f hc h
      refine cnf (decide_eq_false hc) ?_
      refine .skip ?_
      show AW _ _ _ _ _ _
      refine .region ?_
      refine vk (vmvd) ?_
      obtain ⟨x21, hx21, h⟩ := bnd h
      refine vk ((vcl0 (ratOne_ok hx21) Try.call66).deep) ?_
      refine vk ((vbsl (LL_flat [s14, x21]) ge_LL).deep) ?_
      obtain ⟨x22, hx22, h⟩ := bnd h
      refine vk (vcl0 (nSum_ok hx22) Try.call74) ?_
      refine asd ?_
      refine .nil ?_
      refine AL.gh (Gh.keep [3, 4, 5, 6, 9, 10] rfl) ?_
      exact ih (k, s11, s12, x20.1, x22) h (Nat.lt_succ_self _)
    replace h := ite_f hc h
    refine cnf (decide_eq_false hc) ?_
    refine .exit ?_
    show AW _ _ _ _ _ _
    refine .seq ?_
    refine .region ?_
    refine vk (vmvd) ?_
    obtain ⟨x23, hx23, h⟩ := bnd h
    refine vk ((vcl0 (ratOne_ok hx23) Try.call66).deep) ?_
    refine vk (vbd gP_R gI_R gZ_R) ?_
    refine stn ?_ gS_R (by decide)
    refine asd ?_
    refine rn ?_
    refine .gh (Gh.keep [4, 5] rfl) ?_
    refine .ret ?_
    cases h
    exact ⟨_, _, ⟨.inr rfl, gA_R, gS_R, (by decide : (0 : Nat) < 3)⟩, rfl, rfl⟩
  replace h := ite_f hc h
  refine cnt (ntt (bf hc)) ?_
  refine .seq ?_
  refine .region ?_
  refine vk (vbd gP_R gI_R gZ_R) ?_
  refine stn ?_ gS_R (by decide)
  refine asd ?_
  refine rn ?_
  refine .gh (Gh.keep [2, 3, 4, 5] rfl) ?_
  refine .ret ?_
  cases h
  exact ⟨_, _, ⟨.inr rfl, gA_R, gS_R, (by decide : (0 : Nat) < 3)⟩, rfl, rfl⟩

def rat_Print (a0 : RT) : Option (ByteArray) := ((ratRight a0).bind fun x1 => (if x1 = true then ((nPrint a0.2.1).bind fun x2 => (if a0.1 = true then ((sap? (⟨#[194, 175]⟩ : ByteArray) x2).bind fun x3 => (ratOne.bind fun x4 => ((sEqualL a0.2.2 x4).bind fun x5 => (if x5 = true then (some (x3)) else ((nPrint a0.2.2).bind fun x6 => ((sap? (⟨#[114]⟩ : ByteArray) x6).bind fun x7 => ((sap? x3 x7).bind fun x8 => (some (x8))))))))) else (ratOne.bind fun x9 => ((sEqualL a0.2.2 x9).bind fun x10 => (if x10 = true then (some (x2)) else ((nPrint a0.2.2).bind fun x11 => ((sap? (⟨#[114]⟩ : ByteArray) x11).bind fun x12 => ((sap? x2 x12).bind fun x13 => (some (x13)))))))))) else (some ((⟨#[]⟩ : ByteArray)))))
theorem rat_Print_ok {a0 : RT} {r : ByteArray} (h : rat_Print a0 = some r) :
    Fn Try.prog 23 [.ag [.b a0.1, .sl (L a0.2.1), .sl (L a0.2.2)]] (.d (.s r)) := by
  unfold rat_Print at h
  refine Fn.of (rs := [.tmp 2]) (nt := 26) Try.func23 rfl rfl rfl (by simp) rfl ?_
  refine .seq ?_
  refine .region ?_
  refine vk (vbx) ?_
  refine asd ?_
  refine rn ?_
  refine .gh (Gh.keep [1, 2] rfl) ?_
  refine .seq ?_
  refine .seq ?_
  refine .region ?_
  refine vk (vlda gA_R gS_R) ?_
  obtain ⟨x1, hx1, h⟩ := bnd h
  refine vk (vcl0 (ratRight_ok hx1) Try.call19) ?_
  refine vk (vnt) ?_
  refine rn ?_
  refine .gh (Gh.keep [1, 2, 6] rfl) ?_
  by_cases hc : x1 = true
  · replace h := ite_t hc h
    refine cnf (ntf hc) ?_
    refine .skip ?_
    show AW _ _ _ _ _ _
    refine .seq ?_
    refine .region ?_
    refine vk (vfa gF_R_1) ?_
    refine vk (vldp ga_L) ?_
    obtain ⟨x2, hx2, h⟩ := bnd h
    refine vk (vcl0 (nPrint_ok hx2) Try.call78) ?_
    refine asd ?_
    refine rn ?_
    refine .gh (Gh.keep [1, 2, 3] rfl) ?_
    refine .seq ?_
    refine .seq ?_
    refine .region ?_
    refine vk (vfa gF_R_0) ?_
    refine vk (vldp ga_bool) ?_
    refine rn ?_
    refine .gh (Gh.keep [1, 2, 3, 11] rfl) ?_
    by_cases hc : a0.1 = true
    · replace h := ite_t hc h
      refine cnt hc ?_
      refine .region ?_
      refine vk (vmvd) ?_
      obtain ⟨x3, hx3, h⟩ := bnd h
      refine vk (vsa hx3) ?_
      refine asd ?_
      refine rn ?_
      refine .gh (Gh.keep [1, 2, 3] rfl) ?_
      refine .seq ?_
      refine .seq ?_
      refine .drawn 5 mixed (by kernel_rfl) ?_
      refine dv (vfa gF_R_2) ?_
      refine dv (vldp ga_L) ?_
      obtain ⟨x4, hx4, h⟩ := bnd h
      refine dv ((vcl0 (ratOne_ok hx4) Try.call66).deep) ?_
      obtain ⟨x5, hx5, h⟩ := bnd h
      refine dv (vcl0 (sEqualL_ok hx5) Try.call64) ?_
      refine dv (vnt) ?_
      refine dz ?_
      refine rn ?_
      refine .gh (Gh.keep [1, 2, 3, 18] rfl) ?_
      by_cases hc : x5 = true
      · replace h := ite_t hc h
        refine cnf (ntf hc) ?_
        refine .skip ?_
        show AW _ _ _ _ _ _
        refine .seq ?_
        refine .region ?_
        refine vk (vmvd) ?_
        refine asd ?_
        refine rn ?_
        refine .gh (Gh.keep [2] rfl) ?_
        refine .ret ?_
        cases h
        exact ⟨rfl, rfl⟩
      replace h := ite_f hc h
      refine cnt (ntt (bf hc)) ?_
      refine .region ?_
      refine vk (vmvd) ?_
      refine vk (vfa gF_R_2) ?_
      refine vk (vldp ga_L) ?_
      obtain ⟨x6, hx6, h⟩ := bnd h
      refine vk (vcl0 (nPrint_ok hx6) Try.call78) ?_
      obtain ⟨x7, hx7, h⟩ := bnd h
      refine vk (vsa hx7) ?_
      obtain ⟨x8, hx8, h⟩ := bnd h
      refine vk (vsa hx8) ?_
      refine asd ?_
      refine rn ?_
      refine .gh (Gh.keep [2, 3] rfl) ?_
      refine .seq ?_
      refine .region ?_
      refine vk (vmvd) ?_
      refine asd ?_
      refine rn ?_
      refine .gh (Gh.keep [2] rfl) ?_
      refine .ret ?_
      cases h
      exact ⟨rfl, rfl⟩
    replace h := ite_f hc h
    refine cnf (bf hc) ?_
    refine .skip ?_
    show AW _ _ _ _ _ _
    refine .seq ?_
    refine .seq ?_
    refine .drawn 5 mixed (by kernel_rfl) ?_
    refine dv (vfa gF_R_2) ?_
    refine dv (vldp ga_L) ?_
    obtain ⟨x9, hx9, h⟩ := bnd h
    refine dv ((vcl0 (ratOne_ok hx9) Try.call66).deep) ?_
    obtain ⟨x10, hx10, h⟩ := bnd h
    refine dv (vcl0 (sEqualL_ok hx10) Try.call64) ?_
    refine dv (vnt) ?_
    refine dz ?_
    refine rn ?_
    refine .gh (Gh.keep [1, 2, 3, 18] rfl) ?_
    by_cases hc : x10 = true
    · replace h := ite_t hc h
      refine cnf (ntf hc) ?_
      refine .skip ?_
      show AW _ _ _ _ _ _
      refine .seq ?_
      refine .region ?_
      refine vk (vmvd) ?_
      refine asd ?_
      refine rn ?_
      refine .gh (Gh.keep [2] rfl) ?_
      refine .ret ?_
      cases h
      exact ⟨rfl, rfl⟩
    replace h := ite_f hc h
    refine cnt (ntt (bf hc)) ?_
    refine .region ?_
    refine vk (vmvd) ?_
    refine vk (vfa gF_R_2) ?_
    refine vk (vldp ga_L) ?_
    obtain ⟨x11, hx11, h⟩ := bnd h
    refine vk (vcl0 (nPrint_ok hx11) Try.call78) ?_
    obtain ⟨x12, hx12, h⟩ := bnd h
    refine vk (vsa hx12) ?_
    obtain ⟨x13, hx13, h⟩ := bnd h
    refine vk (vsa hx13) ?_
    refine asd ?_
    refine rn ?_
    refine .gh (Gh.keep [2, 3] rfl) ?_
    refine .seq ?_
    refine .region ?_
    refine vk (vmvd) ?_
    refine asd ?_
    refine rn ?_
    refine .gh (Gh.keep [2] rfl) ?_
    refine .ret ?_
    cases h
    exact ⟨rfl, rfl⟩
  replace h := ite_f hc h
  refine cnt (ntt (bf hc)) ?_
  refine .seq ?_
  refine .region ?_
  refine asd ?_
  refine rn ?_
  refine .gh (Gh.keep [1, 2] rfl) ?_
  refine .ret ?_
  cases h
  exact ⟨rfl, rfl⟩
end Go.FL
/-
  Plain laws, rat 2: sums, differences, products, quotients, as the program reckons them.
-/
namespace Go.FL
open Go Go.Proofs

theorem w64_eq {z : Int} (h1 : -9223372036854775808 ≤ z) (h2 : z ≤ 9223372036854775807) : w64 z = z := wrap64 h1 h2
theorem bind_eq {α β : Type} {x : Option α} {a : α} {f : α → Option β} {r : Option β} (h : x = some a) (h2 : f a = r) : x.bind f = r := by rw [h]; exact h2
theorem ratRight_eq {r : RT} (h : okRB r = true) : ratRight r = some (rightR r) := if_pos h
theorem ref2Right_eq {r : RT} (h : okRB r = true) : ref2Right r = some (rightR r) := if_pos h
theorem ratAll_eq {l : List RT} (h : l.all okRB = true) (hl : l.length ≤ 1048576) : ratAllRight l = some (l.all rightR) := if_pos (by rw [h, Bool.true_and]; exact decide_eq_true hl)
theorem ratAll2 {a b : RT} (ha : okRB a = true) (hb : okRB b = true) : ratAllRight [a, b] = some (rightR a && rightR b) := by
  rw [ratAll_eq (by simp [ha, hb]) (by simp)]; simp
theorem ratOne_eq : ratOne = some [1] := if_pos trivial
theorem ref2One_eq : ref2One = some [1] := if_pos trivial
theorem den_ne (p : Rat) : (q3 p).2.2 ≠ 0 := p.den_nz
theorem two_right {p q : Rat} (hp : fits p) (hq : fits q) : (rightR (ofQ p) && rightR (ofQ q)) = true := by rw [ofQ_right hp, ofQ_right hq]; rfl
theorem num_pos {p : Rat} : (0 : Int) < ((List.length (ofQ p).2.1 : Nat) : Int) ↔ p ≠ 0 := by
  show (0 : Int) < (((digs p.num.natAbs).length : Nat) : Int) ↔ _
  constructor
  · rintro h rfl
    rw [show (0 : Rat).num.natAbs = 0 from rfl, digs_zero] at h; simp at h
  · intro h
    have : p.num ≠ 0 := fun h2 => h (Rat.num_eq_zero.1 h2)
    have : digs p.num.natAbs ≠ [] := fun h2 => this (by have := digs_nil_iff.1 h2; omega)
    have := List.length_pos_iff.2 this
    omega
theorem num_zero {p : Rat} : ((List.length (ofQ p).2.1 : Nat) : Int) = 0 ↔ p = 0 := by
  have := @num_pos p
  constructor
  · intro h
    by_cases hp : p = 0
    · exact hp
    · have := this.2 hp; omega
  · intro h
    by_cases h0 : ((List.length (ofQ p).2.1 : Nat) : Int) = 0
    · exact h0
    · exact absurd h (this.1 (by omega))
theorem ofInt_q {z : Int} (h1 : -9223372036854775808 ≤ z) (h2 : z ≤ 9223372036854775807) : ratOfInt z = some (ofQ z) := by
  have : ratOfInt z = some (decide (z < 0), digs z.natAbs, [1]) := if_pos ⟨h1, h2⟩
  rw [this]
  show _ = some (decide (z < 0), digs z.natAbs, digs 1)
  rw [one_digs]
theorem fits_int {z : Int} (h1 : -9223372036854775808 ≤ z) (h2 : z ≤ 9223372036854775808) : fits (z : Rat) := by
  constructor
  · show (digs z.natAbs).length ≤ 32
    exact Nat.le_trans (digs_len (k := 3) (by omega)) (by decide)
  · show (digs 1).length ≤ 32
    rw [one_digs]; decide
end Go.FL
/-
  Plain laws, rat 3: sizes, negatives, rounding, signs, comparisons, sums of many.
-/
namespace Go.FL
open Go Go.Proofs

theorem remN_eq {m n : Nat} (h : n ≠ 0) : remN m n = m % n := if_neg h
theorem sum_one {n : Nat} (h : (digs n).length ≤ 100000) : nSum [digs n, [1]] = some (digs (n + 1)) := by
  have : nSum [digs n, [1]] = some (digs (([digs n, [1]].map val).sum)) := if_pos (by
    simp only [List.all_cons, List.all_nil, okL_digs h, Bool.and_true, Bool.true_and]; rfl)
  rw [this]; simp [val_digs, val]
theorem num_nil {p : Rat} : (ofQ p).2.1 = [] ↔ p = 0 := by
  rw [← num_zero, ← List.length_eq_zero_iff]; omega
/-- -1, 0, 1. -/
def cmpR (p q : Rat) : Int := if p < q then -1 else if p = q then 0 else 1
theorem sign_b {a : RT} (ha : okRB a = true) (h : rightR a = false) : rat_Sign a = some 0 := by
  unfold rat_Sign; rw [ratRight_eq ha, h]; rfl
theorem num_neg {p : Rat} : p.num < 0 ↔ p < 0 := by
  rw [Rat.lt_iff]; simp
theorem sign_q {p : Rat} (hp : fits p) : rat_Sign (ofQ p) = some (cmpR p 0) := by
  unfold rat_Sign
  rw [ratRight_eq (ofQ_okRB hp), ofQ_right hp, Option.bind_some]
  unfold cmpR
  by_cases h : p = 0
  · subst h
    rw [if_pos (by simp [num_nil]), if_neg Rat.lt_irrefl, if_pos rfl]
  · rw [if_neg (by simp [num_nil, h])]
    show (if decide (p.num < 0) = true then some (-1) else some 1) = _
    by_cases h2 : p < 0
    · rw [if_pos h2, if_pos (decide_eq_true (num_neg.2 h2))]
    · rw [if_neg h2, if_neg (by simpa using fun h3 => h2 (num_neg.1 h3)), if_neg h]
theorem isInt_b {a : RT} (ha : okRB a = true) (h : rightR a = false) : rat_IsInt a = some false := by
  unfold rat_IsInt; rw [ratRight_eq ha, h]; rfl
theorem equalL_eq {a b : List Nat} (ha : okL 1048576 a = true) (hb : okL 35184372087808 b = true) : sEqualL a b = some (decide (a = b)) := if_pos (by rw [ha, hb]; rfl)
theorem isInt_q {p : Rat} (hp : fits p) : rat_IsInt (ofQ p) = some (decide (p.den = 1)) := by
  unfold rat_IsInt
  rw [ratRight_eq (ofQ_okRB hp), ofQ_right hp, Option.bind_some, if_pos rfl, ratOne_eq, Option.bind_some]
  rw [show sEqualL (ofQ p).2.2 [1] = some (decide (digs p.den = [1])) from equalL_eq (small_ok hp.2 (by decide)) (by rfl), Option.bind_some, Option.bind_some]
  congr 1
  exact decide_eq_decide.2 digs_one_iff
end Go.FL
/-
  Plain laws, rat 4: comparisons; sums and products of many.
-/
namespace Go.FL
open Go Go.Proofs

theorem nCompare_eq {m n : Nat} (hm : (digs m).length ≤ 1048576) (hn : (digs n).length ≤ 1048576) : nCompare (digs m) (digs n) = some (cmpN m n) := by
  have : nCompare (digs m) (digs n) = some (cmpN (val (digs m)) (val (digs n))) := if_pos (by
    rw [Bool.and_eq_true]; exact ⟨okL_digs (by omega), okL_digs (by omega)⟩)
  rw [this, val_digs, val_digs]
/-! sums and products of many -/
def foldR (op : Rat → Rat → Rat) : Rat → List Rat → RT × Int
  | s, [] => (ofQ s, 0)
  | s, p :: ps => if fits (op s p) then foldR op (op s p) ps else bad 8
theorem foldE_q {op : Q3 → Q3 → Q3} {opR : Rat → Rat → Rat} (hop : ∀ x y : Q3, x.2.2 ≠ 0 → y.2.2 ≠ 0 → valQ (op x y) = opR (valQ x) (valQ y) ∧ (op x y).2.2 ≠ 0) : ∀ (l : List Rat) (s : Rat),
    resQ (foldE op (q3 s) (l.map ofQ)) = foldR opR s l
  | [], s => rfl
  | p :: l, s => by
    rw [List.map_cons, foldE, foldR, rq_of]
    obtain ⟨h1, h2⟩ := hop (q3 s) (q3 p) (den_ne s) (den_ne p)
    rw [show lowQ (op (q3 s) (q3 p)) = lowR (valQ (op (q3 s) (q3 p))) from lowE_rat h2, h1, valQ_of, valQ_of]
    by_cases h : fits (opR s p)
    · rw [show lowR (opR s p) = .ok (q3 (opR s p)) from if_pos h, if_pos h]
      exact foldE_q hop l _
    · rw [show lowR (opR s p) = .error 8 from if_neg h, if_neg h]
      rfl
theorem all_right {ps : List Rat} (h : ∀ p ∈ ps, fits p) : (ps.map ofQ).all rightR = true := by
  rw [List.all_map, List.all_eq_true]; intro p hp; exact ofQ_right (h p hp)
theorem all_ok {ps : List Rat} (h : ∀ p ∈ ps, fits p) : (ps.map ofQ).all okRB = true := by
  rw [List.all_map, List.all_eq_true]; intro p hp; exact ofQ_okRB (h p hp)
theorem q3_zero : q3 0 = (false, 0, 1) := rfl
theorem q3_one : q3 1 = (false, 1, 1) := rfl
theorem add_q {ps : List Rat} (h : ∀ p ∈ ps, fits p) (hl : ps.length ≤ 1048576) : ratAdd (ps.map ofQ) = some (foldR (· + ·) 0 ps) := by
  have : ratAdd (ps.map ofQ) = some (resQ (addE (ps.map ofQ))) := if_pos (by rw [all_ok h, Bool.true_and]; exact decide_eq_true (by simpa using hl))
  rw [this, addE, if_pos (all_right h), ← q3_zero, foldE_q (opR := (· + ·)) fun x y => plusN_rat]
theorem mul_q {ps : List Rat} (h : ∀ p ∈ ps, fits p) (hl : ps.length ≤ 1048576) : ratMul (ps.map ofQ) = some (foldR (· * ·) 1 ps) := by
  have : ratMul (ps.map ofQ) = some (resQ (mulE (ps.map ofQ))) := if_pos (by rw [all_ok h, Bool.true_and]; exact decide_eq_true (by simpa using hl))
  rw [this, mulE, if_pos (all_right h), ← q3_one, foldE_q (opR := (· * ·)) fun x y => timesN_rat]
theorem add2_q {p q : Rat} (hp : fits p) (hq : fits q) : ratAdd [ofQ p, ofQ q] = some (resR (p + q)) := by
  have := add_q (ps := [p, q]) (by simp [hp, hq]) (by simp)
  rw [show [p, q].map ofQ = [ofQ p, ofQ q] from rfl] at this
  rw [this]
  simp only [foldR, Rat.zero_add, if_pos hp, resR]
theorem mul2_q {p q : Rat} (hp : fits p) (hq : fits q) : ratMul [ofQ p, ofQ q] = some (resR (p * q)) := by
  have := mul_q (ps := [p, q]) (by simp [hp, hq]) (by simp)
  rw [show [p, q].map ofQ = [ofQ p, ofQ q] from rfl] at this
  rw [this]
  simp only [foldR, Rat.one_mul, if_pos hp, resR]
end Go.FL
/-
  GP: rat: numbers out of texts.
-/
namespace Go.FL
open Go Go.Proofs

def unicode_utf8_RuneCountInString_l0 (a0 : ByteArray) : Nat → Int → Nat → Option (Int)
  | 0, _, _ => none
  | k + 1, s1, s2 => (if s2 < ByteArray.size a0 then (unicode_utf8_RuneCountInString_l0 a0 k (w64 (s1 + 1)) (rnext a0 s2)) else (some (s1)))
def unicode_utf8_RuneCountInString (a0 : ByteArray) : Option (Int) := (unicode_utf8_RuneCountInString_l0 a0 FUEL 0 0)
theorem unicode_utf8_RuneCountInString_ok {a0 : ByteArray} {r : Int} (h : unicode_utf8_RuneCountInString a0 = some r) :
    Fn Try.prog 70 [.s a0] (.d (.i .i64 r)) := by
  unfold unicode_utf8_RuneCountInString at h
  refine Fn.of (rs := [.tmp 2]) (nt := 10) Try.func70 rfl rfl rfl (by simp) rfl ?_
  refine .seq ?_
  refine .region ?_
  refine asd ?_
  refine rn ?_
  refine .gh (Gh.keep [0, 2] rfl) ?_
  refine .seq ?_
  refine .seq ?_
  refine .region ?_
  refine vk (vmvd) ?_
  refine vk (vrng st) ?_
  refine rn ?_
  refine .gh (Gh.keep [2, 4] rfl) ?_
  refine .block ?_
  refine .loop (.gh (Gh.keep [2, 4] rfl) ?_)
  refine AL.ind (σ := Nat × Int × Nat) (m := fun p => p.1) (e := fun p => [(2, .d (.i .i64 p.2.1)), (4, .it a0 p.2.2)]) (h := fun p => []) (I := fun p => unicode_utf8_RuneCountInString_l0 a0 p.1 p.2.1 p.2.2 = some r) ?_ (FUEL, 0, 0) h
  rintro ⟨k, s1, s2⟩ h ih
  dsimp only at h ih ⊢
  rcases k with _ | k
  · rw [unicode_utf8_RuneCountInString_l0] at h; cases h
  rw [unicode_utf8_RuneCountInString_l0] at h
  refine .seq ?_
  refine .region ?_
  by_cases hc : s2 < ByteArray.size a0
  · replace h := ite_t hc h
    refine nxt ?_ hc
    refine vk (vex) ?_
    refine rn ?_
    refine .gh (Gh.keep [2, 4, 6] rfl) ?_
    refine .seq ?_
    refine cndt ?_
    refine .skip ?_
    show AW _ _ _ _ _ _
    refine .block ?_
    refine .region ?_
    refine vk (vmvd) ?_
    refine vk (vbi) ?_
    refine asd ?_
    refine .nil ?_
    refine AL.gh (Gh.keep [2, 4] rfl) ?_
    exact ih (k, (w64 (s1 + 1)), (rnext a0 s2)) h (Nat.lt_succ_self _)
  replace h := ite_f hc h
  refine nxe ?_ hc
  refine vk (vex) ?_
  refine rn ?_
  refine .gh (Gh.keep [2, 4, 6] rfl) ?_
  refine .seq ?_
  refine cndf ?_
  refine .exit ?_
  show AW _ _ _ _ _ _
  refine .seq ?_
  refine .region ?_
  refine vk (vmvd) ?_
  refine asd ?_
  refine rn ?_
  refine .gh (Gh.keep [2] rfl) ?_
  refine .ret ?_
  cases h
  exact ⟨rfl, rfl⟩

def rat_parts_l0 (a0 : ByteArray) : Nat → Bool → ByteArray → Int → ByteArray → Nat → Option (Bool × ByteArray × Int × ByteArray)
  | 0, _, _, _, _, _ => none
  | k + 1, s1, s2, s3, s4, s5 => (if s5 < ByteArray.size a0 then (if ((decide (((s5 : Nat) : Int) = 0)) && (decide ((rune a0 s5) = 175))) = true then (rat_parts_l0 a0 k true s2 s3 s4 (rnext a0 s5)) else (if ((decide (s3 = 0)) && ((decide ((rune a0 s5) = 46)) || (decide ((rune a0 s5) = 114)))) = true then (rat_parts_l0 a0 k s1 s2 (rune a0 s5) s4 (rnext a0 s5)) else (if s3 = 0 then ((sap? s2 (Utf8.encode (rune a0 s5))).bind fun x6 => (rat_parts_l0 a0 k s1 x6 s3 s4 (rnext a0 s5))) else ((sap? s4 (Utf8.encode (rune a0 s5))).bind fun x7 => (rat_parts_l0 a0 k s1 s2 s3 x7 (rnext a0 s5)))))) else (some (s1, s2, s3, s4)))
def rat_parts (a0 : ByteArray) : Option (Bool × ByteArray × Int × ByteArray) := (rat_parts_l0 a0 FUEL false (⟨#[]⟩ : ByteArray) 0 (⟨#[]⟩ : ByteArray) 0)
theorem rat_parts_ok {a0 : ByteArray} {r : Bool × ByteArray × Int × ByteArray} (h : rat_parts a0 = some r) :
    Fn Try.prog 71 [.s a0] (.tup [.d (.b r.1), .d (.s r.2.1), .d (.i .i32 r.2.2.1), .d (.s r.2.2.2)]) := by
  unfold rat_parts at h
  refine Fn.ofA (rs := [.tmp 2, .tmp 3, .tmp 4, .tmp 5]) (nt := 48) Try.func71 rfl rfl rfl (by simp) rfl ?_
  refine .seq ?_
  refine .region ?_
  refine asd ?_
  refine asd ?_
  refine asd ?_
  refine asd ?_
  refine rn ?_
  refine .gh (Gh.keep [0, 2, 3, 4, 5] rfl) ?_
  refine .seq ?_
  refine .seq ?_
  refine .region ?_
  refine vk (vmvd) ?_
  refine vk (vrng st) ?_
  refine rn ?_
  refine .gh (Gh.keep [2, 3, 4, 5, 9] rfl) ?_
  refine .block ?_
  refine .loop (.gh (Gh.keep [2, 3, 4, 5, 9] rfl) ?_)
  refine AL.ind (σ := Nat × Bool × ByteArray × Int × ByteArray × Nat) (m := fun p => p.1) (e := fun p => [(2, .d (.b p.2.1)), (3, .d (.s p.2.2.1)), (4, .d (.i .i32 p.2.2.2.1)), (5, .d (.s p.2.2.2.2.1)), (9, .it a0 p.2.2.2.2.2)]) (h := fun p => []) (I := fun p => rat_parts_l0 a0 p.1 p.2.1 p.2.2.1 p.2.2.2.1 p.2.2.2.2.1 p.2.2.2.2.2 = some r) ?_ (FUEL, false, (⟨#[]⟩ : ByteArray), 0, (⟨#[]⟩ : ByteArray), 0) h
  rintro ⟨k, s1, s2, s3, s4, s5⟩ h ih
  dsimp only at h ih ⊢
  rcases k with _ | k
  · rw [rat_parts_l0] at h; cases h
  rw [rat_parts_l0] at h
  refine .seq ?_
  refine .region ?_
  by_cases hc : s5 < ByteArray.size a0
  · replace h := ite_t hc h
    refine nxt ?_ hc
    refine vk (vex) ?_
    refine rn ?_
    refine .gh (Gh.keep [2, 3, 4, 5, 9, 10, 11] rfl) ?_
    refine .seq ?_
    refine cndt ?_
    refine .skip ?_
    show AW _ _ _ _ _ _
    refine .block ?_
    refine .seq ?_
    refine .region ?_
    refine vk (vex) ?_
    refine vk (vex) ?_
    refine asd ?_
    refine asd ?_
    refine rn ?_
    refine .gh (Gh.keep [2, 3, 4, 5, 6, 7, 9] rfl) ?_
    refine .block ?_
    refine .seq ?_
    refine AW.mr (σ := Unit) (fun _ => True) (fun _ => [(2, .d (.b s1)), (3, .d (.s s2)), (4, .d (.i .i32 s3)), (5, .d (.s s4)), (7, .d (.i .i32 (rune a0 s5))), (9, .it a0 (rnext a0 s5)), (18, .d (.b ((decide (((s5 : Nat) : Int) = 0)) && (decide ((rune a0 s5) = 175)))))]) (fun _ => []) ?_ ?_
    · skip
      refine .region ?_
      refine vk (vmvd) ?_
      refine vk (vbi) ?_
      by_cases hc : ((s5 : Nat) : Int) = 0
      · have hb0 : (decide (((s5 : Nat) : Int) = 0)) = true := (decide_eq_true hc)
        refine vk (VOK.lit (vmvd) hb0) ?_
        refine vk (vmvd) ?_
        refine vk (vbi) ?_
        refine vk (vpkd) ?_
        refine asd ?_
        refine RL.gh (Gh.keep [2, 3, 4, 5, 7, 9, 18] rfl) ?_
        refine .nil ?_
        exact jr () trivial (by simp only [hb0]; rfl)
      have hb0 : (decide (((s5 : Nat) : Int) = 0)) = false := (decide_eq_false hc)
      refine vk (VOK.lit (vmvd) hb0) ?_
      refine gf ?_
      refine gf ?_
      refine vk (vpkd) ?_
      refine asd ?_
      refine RL.gh (Gh.keep [2, 3, 4, 5, 7, 9, 18] rfl) ?_
      refine .nil ?_
      exact jr () trivial (by simp only [hb0]; rfl)
    rintro _ _
    by_cases hc : ((decide (((s5 : Nat) : Int) = 0)) && (decide ((rune a0 s5) = 175))) = true
    · replace h := ite_t hc h
      refine cnt hc ?_
      refine .region ?_
      refine asd ?_
      refine .nil ?_
      refine AL.gh (Gh.keep [2, 3, 4, 5, 9] rfl) ?_
      exact ih (k, true, s2, s3, s4, (rnext a0 s5)) h (Nat.lt_succ_self _)
    replace h := ite_f hc h
    refine cnf (bf hc) ?_
    refine .seq ?_
    refine AW.mr (σ := Unit) (fun _ => True) (fun _ => [(2, .d (.b s1)), (3, .d (.s s2)), (4, .d (.i .i32 s3)), (5, .d (.s s4)), (7, .d (.i .i32 (rune a0 s5))), (9, .it a0 (rnext a0 s5)), (25, .d (.b ((decide (s3 = 0)) && ((decide ((rune a0 s5) = 46)) || (decide ((rune a0 s5) = 114))))))]) (fun _ => []) ?_ ?_
    · skip
      refine .region ?_
      refine vk (vmvd) ?_
      refine vk (vbi) ?_
      by_cases hc : s3 = 0
      · have hb0 : (decide (s3 = 0)) = true := (decide_eq_true hc)
        refine vk (VOK.lit (vmvd) hb0) ?_
        refine vk (vmvd) ?_
        refine vk (vbi) ?_
        by_cases hc : (rune a0 s5) = 46
        · have hb1 : (decide ((rune a0 s5) = 46)) = true := (decide_eq_true hc)
          refine vk (VOK.lit (vmvd) hb1) ?_
          refine gf ?_
          refine gf ?_
          refine vk (vpkd) ?_
          refine vk (vpkd) ?_
          refine asd ?_
          refine RL.gh (Gh.keep [2, 3, 4, 5, 7, 9, 25] rfl) ?_
          refine .nil ?_
          exact jr () trivial (by simp only [hb0, hb1]; rfl)
        have hb1 : (decide ((rune a0 s5) = 46)) = false := (decide_eq_false hc)
        refine vk (VOK.lit (vmvd) hb1) ?_
        refine vk (vmvd) ?_
        refine vk (vbi) ?_
        refine vk (vpkd) ?_
        refine vk (vpkd) ?_
        refine asd ?_
        refine RL.gh (Gh.keep [2, 3, 4, 5, 7, 9, 25] rfl) ?_
        refine .nil ?_
        exact jr () trivial (by simp only [hb0, hb1]; rfl)
      have hb0 : (decide (s3 = 0)) = false := (decide_eq_false hc)
      refine vk (VOK.lit (vmvd) hb0) ?_
      refine gf ?_
      refine gf ?_
      refine gfu ?_
      refine gf ?_
      refine gf ?_
      refine gf ?_
      refine vk (vpkd) ?_
      refine asd ?_
      refine RL.gh (Gh.keep [2, 3, 4, 5, 7, 9, 25] rfl) ?_
      refine .nil ?_
      exact jr () trivial (by simp only [hb0]; rfl)
    rintro _ _
    by_cases hc : ((decide (s3 = 0)) && ((decide ((rune a0 s5) = 46)) || (decide ((rune a0 s5) = 114)))) = true
    · replace h := ite_t hc h
      refine cnt hc ?_
      refine .region ?_
      refine vk (vmvd) ?_
      refine asd ?_
      refine .nil ?_
      refine AL.gh (Gh.keep [2, 3, 4, 5, 9] rfl) ?_
      exact ih (k, s1, s2, (rune a0 s5), s4, (rnext a0 s5)) h (Nat.lt_succ_self _)
    replace h := ite_f hc h
    refine cnf (bf hc) ?_
    refine .seq ?_
    refine .region ?_
    refine vk (vmvd) ?_
    refine vk (vbi) ?_
    refine asd ?_
    refine rn ?_
    refine .gh (Gh.keep [2, 3, 4, 5, 7, 9, 37] rfl) ?_
    by_cases hc : s3 = 0
    · replace h := ite_t hc h
      refine cnt (decide_eq_true hc) ?_
      refine .region ?_
      refine vk (vmvd) ?_
      refine vk (vmvd) ?_
      refine vk (vcrs (by rw [gk_int32]; rfl) st) ?_
      obtain ⟨x6, hx6, h⟩ := bnd h
      refine vk (vsa hx6) ?_
      refine asd ?_
      refine .nil ?_
      refine AL.gh (Gh.keep [2, 3, 4, 5, 9] rfl) ?_
      exact ih (k, s1, x6, s3, s4, (rnext a0 s5)) h (Nat.lt_succ_self _)
    replace h := ite_f hc h
    refine cnf (decide_eq_false hc) ?_
    refine .region ?_
    refine vk (vmvd) ?_
    refine vk (vmvd) ?_
    refine vk (vcrs (by rw [gk_int32]; rfl) st) ?_
    obtain ⟨x7, hx7, h⟩ := bnd h
    refine vk (vsa hx7) ?_
    refine asd ?_
    refine .nil ?_
    refine AL.gh (Gh.keep [2, 3, 4, 5, 9] rfl) ?_
    exact ih (k, s1, s2, s3, x7, (rnext a0 s5)) h (Nat.lt_succ_self _)
  replace h := ite_f hc h
  refine nxe ?_ hc
  refine vk (vex) ?_
  refine rn ?_
  refine .gh (Gh.keep [2, 3, 4, 5, 9, 10, 11] rfl) ?_
  refine .seq ?_
  refine cndf ?_
  refine .exit ?_
  show AW _ _ _ _ _ _
  refine .seq ?_
  refine .region ?_
  refine vk (vmvd) ?_
  refine vk (vmvd) ?_
  refine vk (vmvd) ?_
  refine vk (vmvd) ?_
  refine asd ?_
  refine asd ?_
  refine asd ?_
  refine asd ?_
  refine rn ?_
  refine .gh (Gh.keep [2, 3, 4, 5] rfl) ?_
  refine .ret ?_
  cases h
  exact ⟨_, _, _, _, rfl, rfl, rfl, rfl, rfl⟩

def rat_Parse_l1 (x2 : Bool × ByteArray × Int × ByteArray) (x3 : (List Nat) × Bool) (x4 : (List Nat) × Bool) (K0 : (List Nat) → (List Nat) → Option (RT × Int)) : Nat → (List Nat) → Nat → Option (RT × Int)
  | 0, _, _ => none
  | k + 1, s8, s9 => (if s9 < ByteArray.size x2.2.2.2 then ((nProduct ([s8, [10]])).bind fun x10 => (rat_Parse_l1 x2 x3 x4 K0 k x10 (rnext x2.2.2.2 s9))) else ((nProduct ([x3.1, s8])).bind fun x11 => ((nSum ([x11, x4.1])).bind fun x12 => (K0 x12 s8))))
def rat_Parse (a0 : ByteArray) : Option (RT × Int) := ((unicode_utf8_RuneCountInString a0).bind fun x1 => (if 700 < x1 then (some ((false, [], []), 8)) else ((rat_parts a0).bind fun x2 => ((nParse x2.2.1).bind fun x3 => ((nParse x2.2.2.2).bind fun x4 => (ratOne.bind fun x5 => (jn (fun (z6 : (List Nat)) (z7 : (List Nat)) => ((ratMake x2.1 z6 z7).bind fun x13 => (some (x13.1, x13.2)))) fun K0 => (if ((!x3.2) || (bif (!(decide (x2.2.2.1 = 0))) then ((!x4.2) || ((decide (x2.2.2.1 = 114)) && (decide (((List.length x4.1 : Nat) : Int) = 0)))) else ((decide (x2.2.2.1 = 114)) && (decide (((List.length x4.1 : Nat) : Int) = 0))))) = true then (some ((false, [], []), 22)) else (if x2.2.2.1 = 114 then (K0 x3.1 x4.1) else (if x2.2.2.1 = 46 then (rat_Parse_l1 x2 x3 x4 K0 FUEL x5 0) else (K0 x3.1 x5)))))))))))
theorem rat_Parse_ok {a0 : ByteArray} {r : RT × Int} (h : rat_Parse a0 = some r) :
    Fn Try.prog 21 [.s a0] (.tup [.d (.ag [.b r.1.1, .sl (L r.1.2.1), .sl (L r.1.2.2)]), .d (.i .i64 r.2)]) := by
  unfold rat_Parse at h
  refine Fn.ofC (rs := [.cell 2 25, .tmp 3]) (nt := 84) Try.func21 rfl rfl rfl (by simp) rfl ?_
  refine .seq ?_
  refine .region ?_
  refine vk (van (zero_of gI_R) gZ_R) ?_
  refine asd ?_
  refine rn ?_
  refine .gh (Gh.keep [0, 2, 3] rfl) ?_
  refine .seq ?_
  refine .seq ?_
  refine .region ?_
  refine vk (vmvd) ?_
  obtain ⟨x1, hx1, h⟩ := bnd h
  refine vk (vcl0 (unicode_utf8_RuneCountInString_ok hx1) Try.call70) ?_
  refine vk (vbi) ?_
  refine rn ?_
  refine .gh (Gh.keep [0, 2, 3, 15] rfl) ?_
  by_cases hc : 700 < x1
  · replace h := ite_t hc h
    refine cnt (decide_eq_true hc) ?_
    refine .seq ?_
    refine .region ?_
    refine vk (vbd gP_R gI_R gZ_R) ?_
    refine stn ?_ gS_R (by decide)
    refine asd ?_
    refine rn ?_
    refine .gh (Gh.keep [0, 2, 3] rfl) ?_
    refine .ret ?_
    cases h
    exact ⟨_, _, ⟨.inr rfl, gA_R, gS_R, (by decide : (0 : Nat) < 3)⟩, rfl, rfl⟩
  replace h := ite_f hc h
  refine cnf (decide_eq_false hc) ?_
  refine .skip ?_
  show AW _ _ _ _ _ _
  refine .seq ?_
  refine .region ?_
  refine vk (vmvd) ?_
  obtain ⟨x2, hx2, h⟩ := bnd h
  refine vk (VOK.tupd (vs := [.b x2.1, .s x2.2.1, .i .i32 x2.2.2.1, .s x2.2.2.2]) (vcl0 (rat_parts_ok hx2) Try.call71)) ?_
  refine vk (vmvd) ?_
  refine vk (vex) ?_
  refine vk (vex) ?_
  refine vk (vex) ?_
  refine vk (vex) ?_
  refine asd ?_
  refine asd ?_
  refine asd ?_
  refine asd ?_
  refine rn ?_
  refine .gh (Gh.keep [2, 3, 4, 5, 6, 7] rfl) ?_
  refine .seq ?_
  refine .region ?_
  refine vk (vmvd) ?_
  obtain ⟨x3, hx3, h⟩ := bnd h
  refine vk (VOK.tupd (vs := [.sl (L x3.1), .b x3.2]) (vcl0 (nParse_ok hx3) Try.call72)) ?_
  refine vk (vmvd) ?_
  refine vk (vex) ?_
  refine vk (vex) ?_
  refine asd ?_
  refine asd ?_
  refine rn ?_
  refine .gh (Gh.keep [2, 3, 4, 6, 7, 8, 9] rfl) ?_
  refine .seq ?_
  refine .region ?_
  refine vk (vmvd) ?_
  obtain ⟨x4, hx4, h⟩ := bnd h
  refine vk (VOK.tupd (vs := [.sl (L x4.1), .b x4.2]) (vcl0 (nParse_ok hx4) Try.call72)) ?_
  refine vk (vmvd) ?_
  refine vk (vex) ?_
  refine vk (vex) ?_
  refine asd ?_
  refine asd ?_
  refine rn ?_
  refine .gh (Gh.keep [2, 3, 4, 6, 7, 8, 9, 10, 11] rfl) ?_
  refine .seq ?_
  refine .region ?_
  obtain ⟨x5, hx5, h⟩ := bnd h
  refine vk ((vcl0 (ratOne_ok hx5) Try.call66).deep) ?_
  refine asd ?_
  refine rn ?_
  refine .gh (Gh.keep [2, 3, 4, 6, 7, 8, 9, 10, 11, 12] rfl) ?_
  obtain ⟨K0, hK0, h⟩ := jn_out h
  refine AW.mj (σ := (List Nat) × (List Nat)) (fun p => K0 p.1 p.2 = some r) (fun p => [(2, .nb [.b false, .sl (L []), .sl (L [])]), (3, .d (.i .i64 0)), (4, .d (.b x2.1)), (8, .d (.sl (L p.1))), (12, .d (.sl (L p.2)))]) (fun p => []) ?_ ?_
  · skip
    refine .block ?_
    refine .seq ?_
    refine AW.mr (σ := Unit) (fun _ => True) (fun _ => [(2, .nb [.b false, .sl (L []), .sl (L [])]), (3, .d (.i .i64 0)), (4, .d (.b x2.1)), (6, .d (.i .i32 x2.2.2.1)), (7, .d (.s x2.2.2.2)), (8, .d (.sl (L x3.1))), (10, .d (.sl (L x4.1))), (12, .d (.sl (L x5))), (35, .d (.b ((!x3.2) || (bif (!(decide (x2.2.2.1 = 0))) then ((!x4.2) || ((decide (x2.2.2.1 = 114)) && (decide (((List.length x4.1 : Nat) : Int) = 0)))) else ((decide (x2.2.2.1 = 114)) && (decide (((List.length x4.1 : Nat) : Int) = 0)))))))]) (fun _ => []) ?_ ?_
    · skip
      refine .region ?_
      refine vk (vmvd) ?_
      refine vk (vnt) ?_
      by_cases hc : x3.2 = true
      · have hb0 : (!x3.2) = false := (ntf hc)
        refine vk (VOK.lit (vmvd) hb0) ?_
        refine vk (vmvd) ?_
        refine vk (vbi) ?_
        by_cases hc : x2.2.2.1 = 0
        · have hb1 : (!(decide (x2.2.2.1 = 0))) = false := (ntf (decide_eq_true hc))
          refine vk (VOK.lit (vmvd) hb1) ?_
          refine gf ?_
          refine gf ?_
          refine vk (vpkd) ?_
          refine vk (vpkd) ?_
          refine vk (vmvd) ?_
          refine vk (vmvd) ?_
          refine vk (vbi) ?_
          by_cases hc : x2.2.2.1 = 114
          · have hb2 : (decide (x2.2.2.1 = 114)) = true := (decide_eq_true hc)
            refine vk (VOK.lit (vmvd) hb2) ?_
            refine vk (vmvd) ?_
            refine vk (vlnE (L_length _) (L_sz _) gu_L) ?_
            refine vk (vbi) ?_
            refine vk (vpkd) ?_
            refine vk (vpkd) ?_
            refine asd ?_
            refine RL.gh (Gh.keep [2, 3, 4, 6, 7, 8, 10, 12, 35] rfl) ?_
            refine .nil ?_
            exact jr () trivial (by simp only [hb0, hb1, hb2]; rfl)
          have hb2 : (decide (x2.2.2.1 = 114)) = false := (decide_eq_false hc)
          refine vk (VOK.lit (vmvd) hb2) ?_
          refine gf ?_
          refine gf ?_
          refine gf ?_
          refine vk (vpkd) ?_
          refine vk (vpkd) ?_
          refine asd ?_
          refine RL.gh (Gh.keep [2, 3, 4, 6, 7, 8, 10, 12, 35] rfl) ?_
          refine .nil ?_
          exact jr () trivial (by simp only [hb0, hb1, hb2]; rfl)
        have hb1 : (!(decide (x2.2.2.1 = 0))) = true := (ntt (decide_eq_false hc))
        refine vk (VOK.lit (vmvd) hb1) ?_
        refine vk (vmvd) ?_
        refine vk (vnt) ?_
        refine vk (vpkd) ?_
        refine vk (vpkd) ?_
        by_cases hc : x4.2 = true
        · have hb2 : (!x4.2) = false := (ntf hc)
          refine vk (VOK.lit (vmvd) hb2) ?_
          refine vk (vmvd) ?_
          refine vk (vbi) ?_
          by_cases hc : x2.2.2.1 = 114
          · have hb3 : (decide (x2.2.2.1 = 114)) = true := (decide_eq_true hc)
            refine vk (VOK.lit (vmvd) hb3) ?_
            refine vk (vmvd) ?_
            refine vk (vlnE (L_length _) (L_sz _) gu_L) ?_
            refine vk (vbi) ?_
            refine vk (vpkd) ?_
            refine vk (vpkd) ?_
            refine asd ?_
            refine RL.gh (Gh.keep [2, 3, 4, 6, 7, 8, 10, 12, 35] rfl) ?_
            refine .nil ?_
            exact jr () trivial (by simp only [hb0, hb1, hb2, hb3]; rfl)
          have hb3 : (decide (x2.2.2.1 = 114)) = false := (decide_eq_false hc)
          refine vk (VOK.lit (vmvd) hb3) ?_
          refine gf ?_
          refine gf ?_
          refine gf ?_
          refine vk (vpkd) ?_
          refine vk (vpkd) ?_
          refine asd ?_
          refine RL.gh (Gh.keep [2, 3, 4, 6, 7, 8, 10, 12, 35] rfl) ?_
          refine .nil ?_
          exact jr () trivial (by simp only [hb0, hb1, hb2, hb3]; rfl)
        have hb2 : (!x4.2) = true := (ntt (bf hc))
        refine vk (VOK.lit (vmvd) hb2) ?_
        refine gf ?_
        refine gf ?_
        refine gfu ?_
        refine gf ?_
        refine gf ?_
        refine gf ?_
        refine gf ?_
        refine vk (vpkd) ?_
        refine asd ?_
        refine RL.gh (Gh.keep [2, 3, 4, 6, 7, 8, 10, 12, 35] rfl) ?_
        refine .nil ?_
        exact jr () trivial (by simp only [hb0, hb1, hb2]; rfl)
      have hb0 : (!x3.2) = true := (ntt (bf hc))
      refine vk (VOK.lit (vmvd) hb0) ?_
      refine gf ?_
      refine gf ?_
      refine gfu ?_
      refine gf ?_
      refine gf ?_
      refine gf ?_
      refine vk (vpkd) ?_
      refine vk (vmvd) ?_
      refine gf ?_
      refine gf ?_
      refine gfu ?_
      refine gf ?_
      refine gf ?_
      refine gf ?_
      refine gf ?_
      refine vk (vpkd) ?_
      refine asd ?_
      refine RL.gh (Gh.keep [2, 3, 4, 6, 7, 8, 10, 12, 35] rfl) ?_
      refine .nil ?_
      exact jr () trivial (by simp only [hb0]; rfl)
    rintro _ _
    by_cases hc : ((!x3.2) || (bif (!(decide (x2.2.2.1 = 0))) then ((!x4.2) || ((decide (x2.2.2.1 = 114)) && (decide (((List.length x4.1 : Nat) : Int) = 0)))) else ((decide (x2.2.2.1 = 114)) && (decide (((List.length x4.1 : Nat) : Int) = 0))))) = true
    · replace h := ite_t hc h
      refine cnt hc ?_
      refine .seq ?_
      refine .region ?_
      refine vk (vbd gP_R gI_R gZ_R) ?_
      refine stn ?_ gS_R (by decide)
      refine asd ?_
      refine rn ?_
      refine .gh (Gh.keep [2, 3, 4, 8, 12] rfl) ?_
      refine .ret ?_
      cases h
      exact ⟨_, _, ⟨.inr rfl, gA_R, gS_R, (by decide : (0 : Nat) < 3)⟩, rfl, rfl⟩
    replace h := ite_f hc h
    refine cnf (bf hc) ?_
    refine .seq ?_
    refine .region ?_
    refine vk (vmvd) ?_
    refine vk (vbi) ?_
    refine asd ?_
    refine rn ?_
    refine .gh (Gh.keep [2, 3, 4, 6, 7, 8, 10, 12, 56] rfl) ?_
    by_cases hc : x2.2.2.1 = 114
    · replace h := ite_t hc h
      refine cnt (decide_eq_true hc) ?_
      refine .region ?_
      refine vk (vmvd) ?_
      refine asd ?_
      refine RL.gh (Gh.keep [2, 3, 4, 8, 12] rfl) ?_
      refine .nil ?_
      exact jr (x3.1, x4.1) h
    replace h := ite_f hc h
    refine cnf (decide_eq_false hc) ?_
    refine .seq ?_
    refine .region ?_
    refine vk (vmvd) ?_
    refine vk (vbi) ?_
    refine asd ?_
    refine rn ?_
    refine .gh (Gh.keep [2, 3, 4, 7, 8, 10, 12, 60] rfl) ?_
    by_cases hc : x2.2.2.1 = 46
    · replace h := ite_t hc h
      refine cnt (decide_eq_true hc) ?_
      refine .seq ?_
      refine .seq ?_
      refine .region ?_
      refine vk (vmvd) ?_
      refine vk (vrng st) ?_
      refine rn ?_
      refine .gh (Gh.keep [2, 3, 4, 8, 10, 12, 64] rfl) ?_
      refine .block ?_
      refine .loop (.gh (Gh.keep [2, 3, 4, 8, 10, 12, 64] rfl) ?_)
      refine AL.ind (σ := Nat × (List Nat) × Nat) (m := fun p => p.1) (e := fun p => [(2, .nb [.b false, .sl (L []), .sl (L [])]), (3, .d (.i .i64 0)), (4, .d (.b x2.1)), (8, .d (.sl (L x3.1))), (10, .d (.sl (L x4.1))), (12, .d (.sl (L p.2.1))), (64, .it x2.2.2.2 p.2.2)]) (h := fun p => []) (I := fun p => rat_Parse_l1 x2 x3 x4 K0 p.1 p.2.1 p.2.2 = some r) ?_ (FUEL, x5, 0) h
      rintro ⟨k, s8, s9⟩ h ih
      dsimp only at h ih ⊢
      rcases k with _ | k
      · rw [rat_Parse_l1] at h; cases h
      rw [rat_Parse_l1] at h
      refine .seq ?_
      refine .region ?_
      by_cases hc : s9 < ByteArray.size x2.2.2.2
      · replace h := ite_t hc h
        refine nxt ?_ hc
        refine vk (vex) ?_
        refine rn ?_
        refine .gh (Gh.keep [2, 3, 4, 8, 10, 12, 64, 66] rfl) ?_
        refine .seq ?_
        refine cndt ?_
        refine .skip ?_
        show AW _ _ _ _ _ _
        refine .block ?_
        refine .region ?_
        refine vk (vmvd) ?_
        refine vk ((vbsl (L_flat [10]) ge_L).deep) ?_
        refine vk ((vbsl (LL_flat [s8, [10]]) ge_LL).deep) ?_
        obtain ⟨x10, hx10, h⟩ := bnd h
        refine vk (vcl0 (nProduct_ok hx10) Try.call73) ?_
        refine asd ?_
        refine .nil ?_
        refine AL.gh (Gh.keep [2, 3, 4, 8, 10, 12, 64] rfl) ?_
        exact ih (k, x10, (rnext x2.2.2.2 s9)) h (Nat.lt_succ_self _)
      replace h := ite_f hc h
      refine nxe ?_ hc
      refine vk (vex) ?_
      refine rn ?_
      refine .gh (Gh.keep [2, 3, 4, 8, 10, 12, 64, 66] rfl) ?_
      refine .seq ?_
      refine cndf ?_
      refine .exit ?_
      show AW _ _ _ _ _ _
      refine .region ?_
      refine vk (vmvd) ?_
      refine vk (vmvd) ?_
      refine vk ((vbsl (LL_flat [x3.1, s8]) ge_LL).deep) ?_
      obtain ⟨x11, hx11, h⟩ := bnd h
      refine vk (vcl0 (nProduct_ok hx11) Try.call73) ?_
      refine vk (vmvd) ?_
      refine vk ((vbsl (LL_flat [x11, x4.1]) ge_LL).deep) ?_
      obtain ⟨x12, hx12, h⟩ := bnd h
      refine vk (vcl0 (nSum_ok hx12) Try.call74) ?_
      refine asd ?_
      refine RL.gh (Gh.keep [2, 3, 4, 8, 12] rfl) ?_
      refine .nil ?_
      exact jr (x12, s8) h
    replace h := ite_f hc h
    refine cnf (decide_eq_false hc) ?_
    refine .gh (Gh.keep [2, 3, 4, 8, 12] rfl) ?_
    refine .skip ?_
    exact jr (x3.1, x5) h
  rintro ⟨z6, z7⟩ h
  try dsimp only at h ⊢
  subst hK0
  refine .seq ?_
  refine .region ?_
  refine vk (vmvd) ?_
  refine vk (vmvd) ?_
  refine vk (vmvd) ?_
  obtain ⟨x13, hx13, h⟩ := bnd h
  refine vk (VOK.tupd (vs := [.ag [.b x13.1.1, .sl (L x13.1.2.1), .sl (L x13.1.2.2)], .i .i64 x13.2]) (vcl0 (ratMake_ok hx13) Try.call16)) ?_
  refine vk (vex) ?_
  refine vk (vex) ?_
  refine stn ?_ gS_R (by decide)
  refine asd ?_
  refine rn ?_
  refine .gh (Gh.keep [2, 3] rfl) ?_
  refine .ret ?_
  cases h
  exact ⟨_, _, ⟨.inr rfl, gA_R, gS_R, (by decide : (0 : Nat) < 3)⟩, rfl, rfl⟩
end Go.FL
/-
  GP: glyphlaw02: live, same.
-/
namespace Go.FL
open Go Go.Proofs

def law02_live : Option (Bool) := ((rat_Parse (⟨#[49, 114, 51]⟩ : ByteArray)).bind fun x1 => ((rat_Parse (⟨#[194, 175, 50, 46, 53]⟩ : ByteArray)).bind fun x2 => ((ratMul ([x1.1, x2.1])).bind fun x3 => (Option.bind ((if x1.2 = 0 then (if x2.2 = 0 then (if x3.2 = 0 then ((rat_Print x3.1).bind fun x5 => (if x5 = (⟨#[194, 175, 53, 114, 54]⟩ : ByteArray) then ((ratRight x3.1).bind fun x6 => (some x6)) else (some false))) else (some false)) else (some false)) else (some false)) : Option (Bool)) fun (z4 : Bool) => (some (z4))))))
theorem law02_live_ok {r : Bool} (h : law02_live = some r) :
    Fn Try.prog 15 [] (.d (.b r)) := by
  unfold law02_live at h
  refine Fn.of (rs := [.tmp 0]) (nt := 41) Try.func15 rfl rfl rfl (by simp) rfl ?_
  refine .seq ?_
  refine .region ?_
  refine asd ?_
  refine rn ?_
  refine .gh (Gh.keep [0] rfl) ?_
  refine .seq ?_
  refine .region ?_
  obtain ⟨x1, hx1, h⟩ := bnd h
  refine vk (VOK.tupd (vs := [.ag [.b x1.1.1, .sl (L x1.1.2.1), .sl (L x1.1.2.2)], .i .i64 x1.2]) (vcl0 (rat_Parse_ok hx1) Try.call21)) ?_
  refine vk (vmvd) ?_
  refine vk (vex) ?_
  refine vk (vex) ?_
  refine vk (van (zero_of gI_R) gZ_R) ?_
  refine stn ?_ gS_R (by decide)
  refine asd ?_
  refine rn ?_
  refine .gh (Gh.keep [0, 1, 2] rfl) ?_
  refine .seq ?_
  refine .region ?_
  obtain ⟨x2, hx2, h⟩ := bnd h
  refine vk (VOK.tupd (vs := [.ag [.b x2.1.1, .sl (L x2.1.2.1), .sl (L x2.1.2.2)], .i .i64 x2.2]) (vcl0 (rat_Parse_ok hx2) Try.call21)) ?_
  refine vk (vmvd) ?_
  refine vk (vex) ?_
  refine vk (vex) ?_
  refine vk (van (zero_of gI_R) gZ_R) ?_
  refine stn ?_ gS_R (by decide)
  refine asd ?_
  refine rn ?_
  refine .gh (Gh.keep [0, 1, 2, 3, 4] rfl) ?_
  refine .seq ?_
  refine .region ?_
  refine vk (vldn gA_R gS_R) ?_
  refine vk (vldn gA_R gS_R) ?_
  refine vk ((vbsl (RVs_flat [x1.1, x2.1]) ge_RVs).deep) ?_
  obtain ⟨x3, hx3, h⟩ := bnd h
  refine vk (VOK.tupd (vs := [.ag [.b x3.1.1, .sl (L x3.1.2.1), .sl (L x3.1.2.2)], .i .i64 x3.2]) (vcl0 (ratMul_ok hx3) Try.call35)) ?_
  refine vk (vmvd) ?_
  refine vk (vex) ?_
  refine vk (vex) ?_
  refine vk (van (zero_of gI_R) gZ_R) ?_
  refine stn ?_ gS_R (by decide)
  refine asd ?_
  refine rn ?_
  refine .gh (Gh.keep [0, 2, 4, 5, 6] rfl) ?_
  refine .seq ?_
  obtain ⟨z4, hz, h⟩ := bnd h
  refine AW.mr (σ := Unit) (fun _ => True) (fun _ => [(0, .d (.b z4))]) (fun _ => []) ?_ ?_
  · skip
    refine .region ?_
    refine vk (vmvd) ?_
    refine vk (vbi) ?_
    by_cases hc : x1.2 = 0
    · replace hz := ite_t hc hz
      have hb0 : (decide (x1.2 = 0)) = true := (decide_eq_true hc)
      refine vk (VOK.lit (vmvd) hb0) ?_
      refine vk (vmvd) ?_
      refine vk (vbi) ?_
      refine vk (vpkd) ?_
      by_cases hc : x2.2 = 0
      · replace hz := ite_t hc hz
        have hb1 : (decide (x2.2 = 0)) = true := (decide_eq_true hc)
        refine vk (VOK.lit (vmvd) hb1) ?_
        refine vk (vmvd) ?_
        refine vk (vbi) ?_
        refine vk (vpkd) ?_
        by_cases hc : x3.2 = 0
        · replace hz := ite_t hc hz
          have hb2 : (decide (x3.2 = 0)) = true := (decide_eq_true hc)
          refine vk (VOK.lit (vmvd) hb2) ?_
          refine vk (vldn gA_R gS_R) ?_
          obtain ⟨x5, hx5, hz⟩ := bnd hz
          refine vk (vcl0 (rat_Print_ok hx5) Try.call23) ?_
          refine vk (vsq (.inl rfl)) ?_
          refine vk (vpkd) ?_
          by_cases hc : x5 = (⟨#[194, 175, 53, 114, 54]⟩ : ByteArray)
          · replace hz := ite_t hc hz
            have hb3 : (decide (x5 = (⟨#[194, 175, 53, 114, 54]⟩ : ByteArray))) = true := (decide_eq_true hc)
            refine vk (VOK.lit (vmvd) hb3) ?_
            refine vk (vldn gA_R gS_R) ?_
            obtain ⟨x6, hx6, hz⟩ := bnd hz
            refine vk (vcl0 (ratRight_ok hx6) Try.call19) ?_
            refine vk (vpkd) ?_
            refine asd ?_
            refine RL.gh (Gh.keep [0] rfl) ?_
            refine .nil ?_
            cases hz
            exact jr () trivial
          replace hz := ite_f hc hz
          have hb3 : (decide (x5 = (⟨#[194, 175, 53, 114, 54]⟩ : ByteArray))) = false := (decide_eq_false hc)
          refine vk (VOK.lit (vmvd) hb3) ?_
          refine gf ?_
          refine gf ?_
          refine vk (vpkd) ?_
          refine asd ?_
          refine RL.gh (Gh.keep [0] rfl) ?_
          refine .nil ?_
          cases hz
          exact jr () trivial
        replace hz := ite_f hc hz
        have hb2 : (decide (x3.2 = 0)) = false := (decide_eq_false hc)
        refine vk (VOK.lit (vmvd) hb2) ?_
        refine gf ?_
        refine gf ?_
        refine gf ?_
        refine vk (vpkd) ?_
        refine vk (vmvd) ?_
        refine gf ?_
        refine gf ?_
        refine vk (vpkd) ?_
        refine asd ?_
        refine RL.gh (Gh.keep [0] rfl) ?_
        refine .nil ?_
        cases hz
        exact jr () trivial
      replace hz := ite_f hc hz
      have hb1 : (decide (x2.2 = 0)) = false := (decide_eq_false hc)
      refine vk (VOK.lit (vmvd) hb1) ?_
      refine gf ?_
      refine gf ?_
      refine vk (vpkd) ?_
      refine vk (vmvd) ?_
      refine gf ?_
      refine gf ?_
      refine gf ?_
      refine vk (vpkd) ?_
      refine vk (vmvd) ?_
      refine gf ?_
      refine gf ?_
      refine vk (vpkd) ?_
      refine asd ?_
      refine RL.gh (Gh.keep [0] rfl) ?_
      refine .nil ?_
      cases hz
      exact jr () trivial
    replace hz := ite_f hc hz
    have hb0 : (decide (x1.2 = 0)) = false := (decide_eq_false hc)
    refine vk (VOK.lit (vmvd) hb0) ?_
    refine gf ?_
    refine gf ?_
    refine vk (vpkd) ?_
    refine vk (vmvd) ?_
    refine gf ?_
    refine gf ?_
    refine vk (vpkd) ?_
    refine vk (vmvd) ?_
    refine gf ?_
    refine gf ?_
    refine gf ?_
    refine vk (vpkd) ?_
    refine vk (vmvd) ?_
    refine gf ?_
    refine gf ?_
    refine vk (vpkd) ?_
    refine asd ?_
    refine RL.gh (Gh.keep [0] rfl) ?_
    refine .nil ?_
    cases hz
    exact jr () trivial
  rintro _ _
  refine .ret ?_
  cases h
  exact ⟨rfl, rfl⟩

end Go.FL
/-
  Plain laws, rat 6: what must be whatever is asked.
-/
namespace Go.FL
open Go Go.Proofs

theorem count_a : unicode_utf8_RuneCountInString ⟨#[49, 114, 51]⟩ = some 3 := by kernel_rfl
theorem parts_a : rat_parts ⟨#[49, 114, 51]⟩ = some (false, ⟨#[49]⟩, 114, ⟨#[51]⟩) := by kernel_rfl
theorem count_b : unicode_utf8_RuneCountInString ⟨#[194, 175, 50, 46, 53]⟩ = some 4 := by kernel_rfl
theorem parts_b : rat_parts ⟨#[194, 175, 50, 46, 53]⟩ = some (true, ⟨#[50]⟩, 46, ⟨#[53]⟩) := by kernel_rfl
theorem parse_a : nParse ⟨#[49]⟩ = some (digs 1, true) := by kernel_rfl
theorem parse_b : nParse ⟨#[51]⟩ = some (digs 3, true) := by kernel_rfl
theorem parse_c : nParse ⟨#[50]⟩ = some (digs 2, true) := by kernel_rfl
theorem parse_d : nParse ⟨#[53]⟩ = some (digs 5, true) := by kernel_rfl
theorem nProduct_eq {ls : List (List Nat)} (h : ls.all (okL 40000) = true) (hl : ls.length ≤ 10) : nProduct ls = some (digs (prodF ls 1)) := if_pos (by rw [h, Bool.true_and]; exact decide_eq_true hl)
theorem nSum_eq {ls : List (List Nat)} (h : ls.all (okL 100000) = true) (hl : ls.length ≤ 1000) : nSum ls = some (digs (ls.map val).sum) := if_pos (by rw [h, Bool.true_and]; exact decide_eq_true hl)
theorem ratMake_eq {b : Bool} {n d : Nat} (hn : (digs n).length ≤ 100000) (hd : (digs d).length ≤ 100000) (h : d ≠ 0) : ratMake b (digs n) (digs d) = some (resR (mkRat (sg b n) d)) := by
  have : ratMake b (digs n) (digs d) = some (resQ (makeE b (val (digs n)) (val (digs d)))) := if_pos (by rw [Bool.and_eq_true]; exact ⟨okL_digs hn, okL_digs hd⟩)
  rw [this, val_digs, val_digs, makeE, if_neg h, lowE_rat h, resQ_lowR]
theorem few_len {n : Nat} (h : n < 4294967296) : (digs n).length ≤ 1 := digs_len (k := 1) (by simpa using h)
def r13 : Rat := ⟨1, 3, by decide, by decide⟩
def r52 : Rat := ⟨-5, 2, by decide, by decide⟩
def r56 : Rat := ⟨-5, 6, by decide, by decide⟩
theorem fits_few {p : Rat} (h1 : p.num.natAbs < 4294967296) (h2 : p.den < 4294967296) : fits p := ⟨Nat.le_trans (few_len h1) (by decide), Nat.le_trans (few_len h2) (by decide)⟩
theorem live_a : rat_Parse ⟨#[49, 114, 51]⟩ = some (ofQ r13, 0) := by
  unfold rat_Parse
  refine bind_eq count_a ?_
  rw [if_neg (by decide)]
  refine bind_eq parts_a (bind_eq parse_a (bind_eq parse_b (bind_eq ratOne_eq ?_)))
  simp only [jn]
  rw [if_neg (by
    have : (List.length (digs 3)) ≠ 0 := by rw [Ne, List.length_eq_zero_iff, digs_nil_iff]; decide
    simp [this]), if_pos trivial]
  refine bind_eq (ratMake_eq (Nat.le_trans (few_len (by decide)) (by decide)) (Nat.le_trans (few_len (by decide)) (by decide)) (by decide)) ?_
  rw [show mkRat (sg false 1) 3 = r13 from (Rat.mk_eq_mkRat 1 3 (by decide) (by decide)).symm, resR_fits (fits_few (by decide) (by decide))]
theorem live_b : rat_Parse ⟨#[194, 175, 50, 46, 53]⟩ = some (ofQ r52, 0) := by
  unfold rat_Parse
  refine bind_eq count_b ?_
  rw [if_neg (by decide)]
  refine bind_eq parts_b (bind_eq parse_c (bind_eq parse_d (bind_eq ratOne_eq ?_)))
  simp only [jn]
  have h5 : (List.length (digs 5)) ≠ 0 := by rw [Ne, List.length_eq_zero_iff, digs_nil_iff]; decide
  rw [if_neg (by simp), if_neg (by decide), if_pos trivial]
  have hF : FUEL = 999999999999998 + 1 + 1 := rfl
  rw [hF, rat_Parse_l1, if_pos (by decide), nProduct_eq (by rfl) (by decide), Option.bind_some, rat_Parse_l1, if_neg (by
    show ¬ rnext ⟨#[53]⟩ 0 < ByteArray.size ⟨#[53]⟩
    decide)]
  have e1 : digs (prodF [[1], [10]] 1) = digs 10 := rfl
  have l1 : ∀ n, n < 4294967296 → okL 40000 (digs n) = true := fun n h => okL_digs (Nat.le_trans (few_len h) (by decide))
  have l2 : ∀ n, n < 4294967296 → okL 100000 (digs n) = true := fun n h => okL_digs (Nat.le_trans (few_len h) (by decide))
  rw [e1, nProduct_eq (by simp [l1]) (by decide), Option.bind_some]
  have e2 : prodF [digs 2, digs 10] 1 = 20 := by simp [prodF, val_digs]
  rw [e2, nSum_eq (by simp [l2]) (by decide), Option.bind_some]
  have e3 : ([digs 20, digs 5].map val).sum = 25 := by simp [val_digs]
  rw [e3, ratMake_eq (Nat.le_trans (few_len (by decide)) (by decide)) (Nat.le_trans (few_len (by decide)) (by decide)) (by decide), Option.bind_some]
  rw [show mkRat (sg true 25) 10 = r52 by
    rw [show r52 = mkRat (-5) 2 from Rat.mk_eq_mkRat _ _ _ _]
    exact mkRat_eq (by decide) (by decide) (by decide), resR_fits (fits_few (by decide) (by decide))]
theorem live_eq : law02_live = some true := by
  have f1 : fits r13 := fits_few (by decide) (by decide)
  have f2 : fits r52 := fits_few (by decide) (by decide)
  have f3 : fits r56 := fits_few (by decide) (by decide)
  unfold law02_live
  rw [live_a, Option.bind_some, live_b, Option.bind_some, mul2_q f1 f2]
  have e : r13 * r52 = r56 := by
    rw [show r13 = mkRat 1 3 from Rat.mk_eq_mkRat _ _ _ _, show r52 = mkRat (-5) 2 from Rat.mk_eq_mkRat _ _ _ _, Rat.mkRat_mul_mkRat, show r56 = mkRat (-5) 6 from Rat.mk_eq_mkRat _ _ _ _]; rfl
  rw [e, resR_fits f3, Option.bind_some, if_pos rfl, if_pos rfl, if_pos rfl]
  have hp : rat_Print (ofQ r56) = some ⟨#[194, 175, 53, 114, 54]⟩ := by
    unfold rat_Print
    rw [ratRight_eq (ofQ_okRB f3), ofQ_right f3, Option.bind_some, if_pos rfl]
    have p1 : ∀ n, n < 4294967296 → nPrint (digs n) = some (bstr (decT n)) := fun n h => by
      have : nPrint (digs n) = some (bstr (decT (val (digs n)))) := if_pos (okL_digs (Nat.le_trans (few_len h) (by decide)))
      rw [this, val_digs]
    rw [show (ofQ r56).2.1 = digs 5 from rfl, show (ofQ r56).2.2 = digs 6 from rfl, p1 5 (by decide), p1 6 (by decide), Option.bind_some, if_pos (show (ofQ r56).1 = true from rfl)]
    have d5 : bstr (decT 5) = ⟨#[53]⟩ := by simp [decT, decR]; rfl
    have d6 : bstr (decT 6) = ⟨#[54]⟩ := by simp [decT, decR]; rfl
    rw [d5, d6, show sap? ⟨#[194, 175]⟩ ⟨#[53]⟩ = some ⟨#[194, 175, 53]⟩ by kernel_rfl, Option.bind_some, ratOne_eq, Option.bind_some, equalL_eq (okL_digs (Nat.le_trans (few_len (by decide)) (by decide))) (by rfl), Option.bind_some]
    rw [decide_eq_false (fun h => by have := digs_one_iff.1 h; omega), if_neg (by decide), Option.bind_some, show sap? ⟨#[114]⟩ ⟨#[54]⟩ = some ⟨#[114, 54]⟩ by kernel_rfl, Option.bind_some, show sap? ⟨#[194, 175, 53]⟩ ⟨#[114, 54]⟩ = some ⟨#[194, 175, 53, 114, 54]⟩ by kernel_rfl]
    rfl
  rw [hp, Option.bind_some, if_pos rfl, ratRight_eq (ofQ_okRB f3), ofQ_right f3]; rfl
end Go.FL
/-
  GP: glyphref02: sums, products, rounding.
-/
namespace Go.FL
open Go Go.Proofs

def ref02_OfInt (a0 : Int) : Option (RT) := (if a0 < 0 then ((r1Of (IntKind.wrap .u64 (0 - (IntKind.wrap .u64 a0)))).bind fun x1 => (ref2One.bind fun x2 => (some (((decide (a0 < 0)), x1, x2))))) else ((r1Of (IntKind.wrap .u64 a0)).bind fun x3 => (ref2One.bind fun x4 => (some (((decide (a0 < 0)), x3, x4))))))
theorem ref02_OfInt_ok {a0 : Int} {r : RT} (h : ref02_OfInt a0 = some r) :
    Fn Try.prog 29 [.i .i64 a0] (.d (.ag [.b r.1, .sl (L r.2.1), .sl (L r.2.2)])) := by
  unfold ref02_OfInt at h
  refine Fn.ofC (rs := [.cell 2 25]) (nt := 16) Try.func29 rfl rfl rfl (by simp) rfl ?_
  refine .seq ?_
  refine .region ?_
  refine vk (van (zero_of gI_R) gZ_R) ?_
  refine rn ?_
  refine .gh (Gh.keep [0, 2] rfl) ?_
  refine .seq ?_
  refine .region ?_
  refine vk (vmvd) ?_
  refine vk (vcv gk_int gk_uint64) ?_
  refine asd ?_
  refine rn ?_
  refine .gh (Gh.keep [0, 2, 3] rfl) ?_
  refine .seq ?_
  refine .seq ?_
  refine .region ?_
  refine vk (vmvd) ?_
  refine vk (vbi) ?_
  refine rn ?_
  refine .gh (Gh.keep [0, 2, 3, 7] rfl) ?_
  by_cases hc : a0 < 0
  · replace h := ite_t hc h
    refine cnt (decide_eq_true hc) ?_
    refine .region ?_
    refine vk (vmvd) ?_
    refine vk (vng) ?_
    refine asd ?_
    refine rn ?_
    refine .gh (Gh.keep [0, 2, 3] rfl) ?_
    refine .seq ?_
    refine .region ?_
    refine vk (vmvd) ?_
    refine vk (vbi) ?_
    refine vk (vmvd) ?_
    obtain ⟨x1, hx1, h⟩ := bnd h
    refine vk ((vcl0 (r1Of_ok hx1) Try.call85).deep) ?_
    obtain ⟨x2, hx2, h⟩ := bnd h
    refine vk ((vcl0 (ref2One_ok hx2) Try.call69).deep) ?_
    refine vk (vbd gP_R gI_R gZ_R) ?_
    refine stn ?_ gS_R (by decide)
    refine rn ?_
    refine .gh (Gh.keep [2] rfl) ?_
    refine .ret ?_
    cases h
    exact ⟨_, ⟨.inr rfl, gA_R, gS_R, (by decide : (0 : Nat) < 3)⟩, rfl⟩
  replace h := ite_f hc h
  refine cnf (decide_eq_false hc) ?_
  refine .skip ?_
  show AW _ _ _ _ _ _
  refine .seq ?_
  refine .region ?_
  refine vk (vmvd) ?_
  refine vk (vbi) ?_
  refine vk (vmvd) ?_
  obtain ⟨x3, hx3, h⟩ := bnd h
  refine vk ((vcl0 (r1Of_ok hx3) Try.call85).deep) ?_
  obtain ⟨x4, hx4, h⟩ := bnd h
  refine vk ((vcl0 (ref2One_ok hx4) Try.call69).deep) ?_
  refine vk (vbd gP_R gI_R gZ_R) ?_
  refine stn ?_ gS_R (by decide)
  refine rn ?_
  refine .gh (Gh.keep [2] rfl) ?_
  refine .ret ?_
  cases h
  exact ⟨_, ⟨.inr rfl, gA_R, gS_R, (by decide : (0 : Nat) < 3)⟩, rfl⟩

def ref02_Sign (a0 : RT) : Option (Int) := ((ref2Right a0).bind fun x1 => (if ((!x1) || (decide (((List.length a0.2.1 : Nat) : Int) = 0))) = true then (some (0)) else (if a0.1 = true then (some ((-1))) else (some (1)))))
theorem ref02_Sign_ok {a0 : RT} {r : Int} (h : ref02_Sign a0 = some r) :
    Fn Try.prog 31 [.ag [.b a0.1, .sl (L a0.2.1), .sl (L a0.2.2)]] (.d (.i .i64 r)) := by
  unfold ref02_Sign at h
  refine Fn.of (rs := [.tmp 2]) (nt := 16) Try.func31 rfl rfl rfl (by simp) rfl ?_
  refine .seq ?_
  refine .region ?_
  refine vk (vbx) ?_
  refine asd ?_
  refine rn ?_
  refine .gh (Gh.keep [1, 2] rfl) ?_
  refine .seq ?_
  refine .block ?_
  refine .seq ?_
  obtain ⟨x1, hx1, h⟩ := bnd h
  refine AW.mr (σ := Unit) (fun _ => True) (fun _ => [(1, .d (.ptr [.b a0.1, .sl (L a0.2.1), .sl (L a0.2.2)])), (2, .d (.i .i64 0)), (3, .d (.b ((!x1) || (decide (((List.length a0.2.1 : Nat) : Int) = 0)))))]) (fun _ => []) ?_ ?_
  · skip
    refine .region ?_
    refine vk (vlda gA_R gS_R) ?_
    refine vk (vcl0 (ref2Right_ok hx1) Try.call20) ?_
    refine vk (vnt) ?_
    by_cases hc : x1 = true
    · have hb0 : (!x1) = false := (ntf hc)
      refine vk (VOK.lit (vmvd) hb0) ?_
      refine vk (vfa gF_R_1) ?_
      refine vk (vldp ga_L) ?_
      refine vk (vlnE (L_length _) (L_sz _) gu_L) ?_
      refine vk (vbi) ?_
      refine vk (vpkd) ?_
      refine asd ?_
      refine RL.gh (Gh.keep [1, 2, 3] rfl) ?_
      refine .nil ?_
      exact jr () trivial (by simp only [hb0]; rfl)
    have hb0 : (!x1) = true := (ntt (bf hc))
    refine vk (VOK.lit (vmvd) hb0) ?_
    refine gf ?_
    refine gf ?_
    refine gf ?_
    refine gf ?_
    refine vk (vpkd) ?_
    refine asd ?_
    refine RL.gh (Gh.keep [1, 2, 3] rfl) ?_
    refine .nil ?_
    exact jr () trivial (by simp only [hb0]; rfl)
  rintro _ _
  by_cases hc : ((!x1) || (decide (((List.length a0.2.1 : Nat) : Int) = 0))) = true
  · replace h := ite_t hc h
    refine cnt hc ?_
    refine .seq ?_
    refine .region ?_
    refine asd ?_
    refine rn ?_
    refine .gh (Gh.keep [2] rfl) ?_
    refine .ret ?_
    cases h
    exact ⟨rfl, rfl⟩
  replace h := ite_f hc h
  refine cnf (bf hc) ?_
  refine .seq ?_
  refine .region ?_
  refine vk (vfa gF_R_0) ?_
  refine vk (vldp ga_bool) ?_
  refine asd ?_
  refine rn ?_
  refine .gh (Gh.keep [2, 13] rfl) ?_
  by_cases hc : a0.1 = true
  · replace h := ite_t hc h
    refine cnt hc ?_
    refine .seq ?_
    refine .region ?_
    refine asd ?_
    refine rn ?_
    refine .gh (Gh.keep [2] rfl) ?_
    refine .ret ?_
    cases h
    exact ⟨rfl, rfl⟩
  replace h := ite_f hc h
  refine cnf (bf hc) ?_
  refine .skip ?_
  show AW _ _ _ _ _ _
  refine .seq ?_
  refine .region ?_
  refine asd ?_
  refine rn ?_
  refine .gh (Gh.keep [2] rfl) ?_
  refine .ret ?_
  cases h
  exact ⟨rfl, rfl⟩

def ref02_IsInt (a0 : RT) : Option (Bool) := ((ref2Right a0).bind fun x1 => (Option.bind ((if x1 = true then (ref2One.bind fun x3 => ((r1Compare a0.2.2 x3).bind fun x4 => (some (decide (x4 = 0))))) else (some false)) : Option (Bool)) fun (z1 : Bool) => (some (z1))))
theorem ref02_IsInt_ok {a0 : RT} {r : Bool} (h : ref02_IsInt a0 = some r) :
    Fn Try.prog 33 [.ag [.b a0.1, .sl (L a0.2.1), .sl (L a0.2.2)]] (.d (.b r)) := by
  unfold ref02_IsInt at h
  refine Fn.of (rs := [.tmp 2]) (nt := 12) Try.func33 rfl rfl rfl (by simp) rfl ?_
  refine .seq ?_
  refine .region ?_
  refine vk (vbx) ?_
  refine asd ?_
  refine rn ?_
  refine .gh (Gh.keep [1, 2] rfl) ?_
  refine .seq ?_
  obtain ⟨x1, hx1, h⟩ := bnd h
  obtain ⟨z1, hz, h⟩ := bnd h
  refine AW.mr (σ := Unit) (fun _ => True) (fun _ => [(2, .d (.b z1))]) (fun _ => []) ?_ ?_
  · skip
    refine .drawn 9 mixed (by kernel_rfl) ?_
    refine dv (vlda gA_R gS_R) ?_
    refine dv (vcl0 (ref2Right_ok hx1) Try.call20) ?_
    by_cases hc : x1 = true
    · replace hz := ite_t hc hz
      have hb0 : x1 = true := hc
      refine dv (VOK.lit (vmvd) hb0) ?_
      refine dv (vfa gF_R_2) ?_
      refine dv (vldp ga_L) ?_
      obtain ⟨x3, hx3, hz⟩ := bnd hz
      refine dv ((vcl0 (ref2One_ok hx3) Try.call69).deep) ?_
      obtain ⟨x4, hx4, hz⟩ := bnd hz
      refine dv (vcl0 (r1Compare_ok hx4) Try.call68) ?_
      refine dv (vbi) ?_
      refine dv (vpkd) ?_
      refine dz ?_
      refine asd ?_
      refine RL.gh (Gh.keep [2] rfl) ?_
      refine .nil ?_
      cases hz
      exact jr () trivial
    replace hz := ite_f hc hz
    have hb0 : x1 = false := (bf hc)
    refine dv (VOK.lit (vmvd) hb0) ?_
    refine dgf ?_
    refine dgf ?_
    refine dgf ?_
    refine dgf ?_
    refine dgf ?_
    refine dv (vpkd) ?_
    refine dz ?_
    refine asd ?_
    refine RL.gh (Gh.keep [2] rfl) ?_
    refine .nil ?_
    cases hz
    exact jr () trivial
  rintro _ _
  refine .ret ?_
  cases h
  exact ⟨rfl, rfl⟩
end Go.FL
/-
  Plain laws, rat 5: the reference's numbers.
-/
namespace Go.FL
open Go Go.Proofs

theorem r1Compare_eq {m n : Nat} (hm : (digs m).length ≤ 500000) (hn : (digs n).length ≤ 500000) : r1Compare (digs m) (digs n) = some (cmpN m n) := by
  have : r1Compare (digs m) (digs n) = some (cmpN (val (digs m)) (val (digs n))) := if_pos (by rw [Bool.and_eq_true]; exact ⟨okL_digs (by omega), okL_digs (by omega)⟩)
  rw [this, val_digs, val_digs]
theorem len2 {a b : Nat} {k : Nat} (ha : (digs a).length ≤ k) (hb : (digs b).length ≤ k) : (digs (a * b)).length ≤ 2 * k := by
  have := mul_len (digs_ok a) (digs_ok b) ha hb
  rwa [val_digs, val_digs] at this
theorem ref_ofInt_q {z : Int} (h1 : -9223372036854775808 ≤ z) (h2 : z ≤ 9223372036854775807) : ref02_OfInt z = some (ofQ z) := by
  unfold ref02_OfInt
  have hof : ∀ n : Nat, n < 18446744073709551616 → r1Of (n : Int) = some (digs n) := fun n hn => by
    have : r1Of (n : Int) = some (digs ((n : Int).toNat)) := if_pos (by omega)
    rw [this, Int.toNat_natCast]
  have e : ofQ (z : Rat) = (decide (z < 0), digs z.natAbs, [1]) := by
    show (decide (z < 0), digs z.natAbs, digs 1) = _
    rw [one_digs]
  by_cases h : z < 0
  · rw [if_pos h, u64_neg h h1, hof _ (by omega), ref2One_eq, e]; rfl
  · rw [if_neg h, u64_nn (by omega) h2, hof _ (by omega), ref2One_eq, e]; rfl
/-! signs, rounding -/
theorem ref_sign_eq {a : RT} (ha : okRB a = true) : ref02_Sign a = rat_Sign a := by
  unfold ref02_Sign rat_Sign; rw [ref2Right_eq ha, ratRight_eq ha]
theorem ref_isInt_eq {a : RT} (ha : okRB a = true) : ref02_IsInt a = rat_IsInt a := by
  rcases right_cases (r := a) with h | ⟨p, hp, rfl⟩
  · rw [isInt_b ha h]; unfold ref02_IsInt; rw [ref2Right_eq ha, h]; rfl
  · rw [isInt_q hp]; unfold ref02_IsInt
    rw [ref2Right_eq ha, ofQ_right hp, Option.bind_some, if_pos rfl, ref2One_eq, Option.bind_some, ← one_digs]
    rw [show r1Compare (ofQ p).2.2 (digs 1) = some (cmpN p.den 1) from r1Compare_eq (Nat.le_trans hp.2 (by decide)) (by rw [one_digs]; decide), Option.bind_some, Option.bind_some]
    congr 1
    refine decide_eq_decide.2 ?_
    have := p.den_nz
    unfold cmpN
    rw [if_neg (by omega)]
    constructor
    · intro h; by_cases h2 : p.den = 1
      · exact h2
      · rw [if_neg h2] at h; cases h
    · intro h; rw [if_pos h]
end Go.FL
/-
  GP: glyphref02: comparisons, copies, texts.
-/
namespace Go.FL
open Go Go.Proofs

def ref02_ToInt (a0 : RT) : Option (Int × Bool) := ((ref02_IsInt a0).bind fun x1 => (if x1 = true then (Option.bind ((if a0.1 = true then ((r1Same a0.2.1 ([0, 2147483648])).bind fun x3 => (some x3)) else (some false)) : Option (Bool)) fun (z2 : Bool) => (if z2 = true then (some ((-9223372036854775808), true)) else ((r1Small a0.2.1).bind fun x4 => (if a0.1 = true then (some ((IntKind.wrap .i64 (0 - x4.1)), x4.2)) else (some (x4.1, x4.2)))))) else (some (0, false))))
theorem ref02_ToInt_ok {a0 : RT} {r : Int × Bool} (h : ref02_ToInt a0 = some r) :
    Fn Try.prog 27 [.ag [.b a0.1, .sl (L a0.2.1), .sl (L a0.2.2)]] (.tup [.d (.i .i64 r.1), .d (.b r.2)]) := by
  unfold ref02_ToInt at h
  refine Fn.of (rs := [.tmp 2, .tmp 3]) (nt := 29) Try.func27 rfl rfl rfl (by simp) rfl ?_
  refine .seq ?_
  refine .region ?_
  refine vk (vbx) ?_
  refine asd ?_
  refine asd ?_
  refine rn ?_
  refine .gh (Gh.keep [1, 2, 3] rfl) ?_
  refine .seq ?_
  refine .seq ?_
  refine .region ?_
  refine vk (vlda gA_R gS_R) ?_
  obtain ⟨x1, hx1, h⟩ := bnd h
  refine vk (vcl0 (ref02_IsInt_ok hx1) Try.call33) ?_
  refine vk (vnt) ?_
  refine rn ?_
  refine .gh (Gh.keep [1, 2, 3, 8] rfl) ?_
  by_cases hc : x1 = true
  · replace h := ite_t hc h
    refine cnf (ntf hc) ?_
    refine .skip ?_
    show AW _ _ _ _ _ _
    refine .seq ?_
    refine .seq ?_
    obtain ⟨z2, hz, h⟩ := bnd h
    refine AW.mr (σ := Unit) (fun _ => True) (fun _ => [(1, .d (.ptr [.b a0.1, .sl (L a0.2.1), .sl (L a0.2.2)])), (2, .d (.i .i64 0)), (3, .d (.b false)), (16, .d (.b z2))]) (fun _ => []) ?_ ?_
    · skip
      refine .region ?_
      refine vk (vfa gF_R_0) ?_
      refine vk (vldp ga_bool) ?_
      by_cases hc : a0.1 = true
      · replace hz := ite_t hc hz
        have hb0 : a0.1 = true := hc
        refine vk (VOK.lit (vmvd) hb0) ?_
        refine vk (vfa gF_R_1) ?_
        refine vk (vldp ga_L) ?_
        refine vk ((vbsl (L_flat [0, 2147483648]) ge_L).deep) ?_
        obtain ⟨x3, hx3, hz⟩ := bnd hz
        refine vk (vcl0 (r1Same_ok hx3) Try.call80) ?_
        refine vk (vpkd) ?_
        refine RL.gh (Gh.keep [1, 2, 3, 16] rfl) ?_
        refine .nil ?_
        cases hz
        exact jr () trivial
      replace hz := ite_f hc hz
      have hb0 : a0.1 = false := (bf hc)
      refine vk (VOK.lit (vmvd) hb0) ?_
      refine gf ?_
      refine gf ?_
      refine gf ?_
      refine gf ?_
      refine vk (vpkd) ?_
      refine RL.gh (Gh.keep [1, 2, 3, 16] rfl) ?_
      refine .nil ?_
      cases hz
      exact jr () trivial
    rintro _ _
    by_cases hc : z2 = true
    · replace h := ite_t hc h
      refine cnt hc ?_
      refine .seq ?_
      refine .region ?_
      refine asd ?_
      refine asd ?_
      refine rn ?_
      refine .gh (Gh.keep [1, 2, 3] rfl) ?_
      refine .ret ?_
      cases h
      exact ⟨by decide, rfl, rfl, rfl⟩
    replace h := ite_f hc h
    refine cnf (bf hc) ?_
    refine .skip ?_
    show AW _ _ _ _ _ _
    refine .seq ?_
    refine .region ?_
    refine vk (vfa gF_R_1) ?_
    refine vk (vldp ga_L) ?_
    obtain ⟨x4, hx4, h⟩ := bnd h
    refine vk (VOK.tupd (vs := [.i .i64 x4.1, .b x4.2]) (vcl0 (r1Small_ok hx4) Try.call83)) ?_
    refine vk (vmvd) ?_
    refine vk (vex) ?_
    refine vk (vex) ?_
    refine asd ?_
    refine asd ?_
    refine rn ?_
    refine .gh (Gh.keep [1, 2, 3, 4, 5] rfl) ?_
    refine .seq ?_
    refine .seq ?_
    refine .region ?_
    refine vk (vfa gF_R_0) ?_
    refine vk (vldp ga_bool) ?_
    refine rn ?_
    refine .gh (Gh.keep [2, 3, 4, 5, 24] rfl) ?_
    by_cases hc : a0.1 = true
    · replace h := ite_t hc h
      refine cnt hc ?_
      refine .region ?_
      refine vk (vmvd) ?_
      refine vk (vng) ?_
      refine asd ?_
      refine rn ?_
      refine .gh (Gh.keep [2, 3, 4, 5] rfl) ?_
      refine .seq ?_
      refine .region ?_
      refine vk (vmvd) ?_
      refine vk (vmvd) ?_
      refine asd ?_
      refine asd ?_
      refine rn ?_
      refine .gh (Gh.keep [2, 3] rfl) ?_
      refine .ret ?_
      cases h
      exact ⟨by decide, rfl, rfl, rfl⟩
    replace h := ite_f hc h
    refine cnf (bf hc) ?_
    refine .skip ?_
    show AW _ _ _ _ _ _
    refine .seq ?_
    refine .region ?_
    refine vk (vmvd) ?_
    refine vk (vmvd) ?_
    refine asd ?_
    refine asd ?_
    refine rn ?_
    refine .gh (Gh.keep [2, 3] rfl) ?_
    refine .ret ?_
    cases h
    exact ⟨by decide, rfl, rfl, rfl⟩
  replace h := ite_f hc h
  refine cnt (ntt (bf hc)) ?_
  refine .seq ?_
  refine .region ?_
  refine asd ?_
  refine asd ?_
  refine rn ?_
  refine .gh (Gh.keep [1, 2, 3] rfl) ?_
  refine .ret ?_
  cases h
  exact ⟨by decide, rfl, rfl, rfl⟩

end Go.FL
/-
  GP: glyphref02: comparison by a tolerance.
-/
namespace Go.FL
open Go Go.Proofs

end Go.FL
/-
  rat.ToInt, by hand: a loop over an iterator.
-/
namespace Go.FL
open Go Go.Proofs

/-- The whole number that fits, and whether it does. -/
def intV (s : Bool) (n : Nat) : Int × Bool := if s = true then (if n ≤ 9223372036854775808 then (-(n : Int), true) else (0, false)) else if n < 9223372036854775808 then ((n : Int), true) else (0, false)
def ratToInt (a : RT) : Option (Int × Bool) := (rat_IsInt a).bind fun b => if b = true then (if (okL 1048576 a.2.1 && decide (digs (val a.2.1) = a.2.1)) = true then some (if bitsN (val a.2.1) ≤ 64 then intV a.1 (val a.2.1) else (0, false)) else none) else some (0, false)
theorem zu64 (w : World) : (zeroValue 77).run Try.prog w = .ok (.int .u64 0) w := by
  simp
theorem zu1 : szOf Try.prog 77 = 1 := by kernel_rfl
theorem au1 : aggT Try.prog 77 = some false := by kernel_rfl
theorem val_two {xs : List Nat} (h : Ok xs) (hl : xs.length ≤ 2) : ∀ j, val (xs.drop (j + 1)) < 4294967296 := by
  intro j
  match xs, hl with
  | [], _ => simp [val]
  | [x], _ => cases j <;> simp [val]
  | [x, y], _ =>
    have hy : y < 4294967296 := h y (by simp)
    cases j with
    | zero => simp [val]; omega
    | succ j => cases j <;> simp [val]
theorem neg_wrap {n : Nat} (h : n ≤ 9223372036854775808) : IntKind.i64.wrap (IntKind.u64.wrap (0 - (n : Int))) = -(n : Int) := by
  simp only [IntKind.wrap, IntKind.bits, IntKind.signed]; simp; omega
theorem ratToInt_ok {a : RT} {r : Int × Bool} (h : ratToInt a = some r) : Fn Try.prog 26 [.ag [.b a.1, .sl (L a.2.1), .sl (L a.2.2)]] (.tup [.d (.i .i64 r.1), .d (.b r.2)]) := by
  unfold ratToInt at h
  obtain ⟨x1, hx1, h⟩ := bnd h
  refine Fn.ofM (rs := [.tmp 2, .tmp 3]) (nt := 46) Try.func26 rfl rfl rfl (by simp) rfl ?_
  refine .seqA ?_
  refine .region ?_
  refine vk (vbx) ?_
  refine asd ?_
  refine asd ?_
  refine rn ?_
  show AWM _ _ _ _ _ _
  refine .seqA ?_
  refine .seq ?_
  refine .region ?_
  refine vk (vlda gA_R gS_R) ?_
  refine vk (vcl0 (rat_IsInt_ok hx1) Try.call32) ?_
  refine vk (vnt) ?_
  cases x1 with
  | false =>
    replace h := ite_f (by decide) h
    refine mvd ?_
    refine gf ?_
    refine gf ?_
    refine gf ?_
    refine gf ?_
    refine vk (vpkd) ?_
    refine rn ?_
    refine cnt rfl ?_
    refine .seq ?_
    refine .region ?_
    refine asd ?_
    refine asd ?_
    refine rn ?_
    refine .ret ?_
    cases h
    exact ⟨by decide, rfl, rfl, rfl⟩
  | true =>
    replace h := ite_t rfl h
    obtain ⟨hc, h⟩ := ite_n h
    rw [Bool.and_eq_true, okL_iff] at hc
    obtain ⟨⟨hok, hlen⟩, hdg⟩ := hc
    have hdg := of_decide_eq_true hdg
    refine mvd ?_
    refine vk (vfa gF_R_1) ?_
    refine vk (vldp ga_L) ?_
    refine cl (xs := [.sl (L a.2.1)]) ?_ (Bits_fn hok hlen) Try.call81
    refine vk (vbi) ?_
    refine vk (vpkd) ?_
    refine rn ?_
    by_cases hb : bitsN (val a.2.1) ≤ 64
    · rw [if_pos hb] at h
      cases h
      have hb1 : decide ((64 : Int) < (bitsN (val a.2.1) : Nat)) = false := decide_eq_false (by omega)
      refine cnf hb1 ?_
      refine .skip ?_
      show AWM _ _ _ _ _ _
      have hv64 : val a.2.1 < 18446744073709551616 := bitsN_iff.1 hb
      have hlen2 : a.2.1.length ≤ 2 := by rw [← hdg]; exact digs_len (by omega)
      have hvs := val_two hok hlen2
      refine .seqA ?_
      refine .region ?_
      refine al ?_ zu64 (fun w I μ => .cons (c := .d (.i .u64 0)) (b1 := []) (.d (.i _ _)) .nil)
      refine stb (cs := [.d (.i .u64 0)]) (c := .d (.i .u64 0)) rfl rfl ?_ zu1
      refine rn ?_
      show AWM _ _ _ _ _ _
      refine .seq rfl ?_
      refine .seqA ?_
      refine .region ?_
      refine vk (vfa gF_R_1) ?_
      refine vk (vldp ga_L) ?_
      refine cl (xs := [.sl (L a.2.1)]) ?_ (Backward_fn (L a.2.1)) Try.call82
      refine rn ?_
      show AWM _ _ _ _ _ _
      obtain ⟨s, xs, den⟩ := a
      dsimp only at *
      have hys : ∀ ds ∈ backY (L xs), ds.length = 2 := fun ds hds => by
        obtain ⟨k, hk⟩ := List.getElem?_of_mem hds
        rw [(backY_at hk).2]; rfl
      have hit := bw_it (L xs) (by intro x hx; simp only [L, List.mem_map] at hx; obtain ⟨n, _, rfl⟩ := hx; rfl) (by rw [L_length]; omega)
      refine .block ?_
      refine .rangeFunc rfl rfl rfl Try.call121 hit hys (by decide) (by decide) rfl (fun k => [.box [.d (.i .u64 ((val (xs.drop (xs.length - k)) : Nat) : Int))]]) (by simp [val]) ?_ ?_
      · intro l k d1 d2 hk
        obtain ⟨hk1, hk2⟩ := backY_at hk
        rw [L_length] at hk1 hk2
        have hj : xs.length - 1 - k < xs.length := by omega
        have hxat : (L xs).getD (xs.length - 1 - k) .np = U xs[xs.length - 1 - k] := by
          rw [List.getD_eq_getElem?_getD, L_at (List.getElem?_eq_getElem hj)]; rfl
        rw [hxat] at hk2
        simp only [List.cons.injEq, and_true] at hk2
        obtain ⟨rfl, rfl⟩ := hk2
        have hva := val_at hj
        have hx := hok.at (List.getElem?_eq_getElem hj)
        have hsm := hvs (xs.length - 1 - k)
        have e1 : xs.length - 1 - k + 1 = xs.length - k := by omega
        have e2 : xs.length - (k + 1) = xs.length - 1 - k := by omega
        rw [e1] at hva hsm
        rw [e2]
        generalize xs[xs.length - 1 - k] = x at *
        generalize val (xs.drop (xs.length - k)) = n at *
        rw [hva]
        refine .region ?_
        refine asd ?_
        refine rn ?_
        show AW _ _ _ _ _ _
        refine .block ?_
        refine .region ?_
        refine ldb (cs := [.d (.i .u64 (n : Int))]) (c := .d (.i .u64 (n : Int))) rfl rfl ?_ au1
        refine bie (.i .u64 ((n * 4294967296 : Nat) : Int)) ?_ ?_
        · refine ⟨by decide, ?_⟩
          have : IntKind.u64.wrap ((n : Int) * 4294967296) = ((n * 4294967296 : Nat) : Int) := by
            rw [wraps_u64 _ (by omega) (by omega)]; omega
          rw [← this]; simp [IntKind.bits]
        refine mvd ?_
        refine cve (x : Int) (wraps_u64 _ (by omega) (by omega)) ?_ u32 u64
        refine bie (.i .u64 ((n * 4294967296 + x : Nat) : Int)) ?_ ?_
        · exact ⟨trivial, by rw [u64_join hsm hx]⟩
        refine stb (cs := [.d (.i .u64 (n : Int))]) (c := .d (.i .u64 (n : Int))) rfl rfl ?_ zu1
        refine .nil ?_
        refine ⟨rfl, ?_⟩
        rw [show n * 4294967296 + x = x + 4294967296 * n by omega]
        rfl
      · show AWM _ _ _ _ _ _
        refine .lift ?_
        rw [backY_length, L_length, Nat.sub_self, List.drop_zero]
        have hn : val xs < 18446744073709551616 := hv64
        generalize val xs = n at *
        cases s with
        | true =>
          refine .seq ?_
          refine .block ?_
          refine .seq ?_
          refine .region ?_
          refine vk (vfa gF_R_0) ?_
          refine vk (vldp ga_bool) ?_
          refine mvd ?_
          refine ldb (cs := [.d (.i .u64 (n : Int))]) (c := .d (.i .u64 (n : Int))) rfl rfl ?_ au1
          refine vk (vbi) ?_
          refine vk (vpkd) ?_
          refine asd ?_
          refine rn ?_
          by_cases hle : n ≤ 9223372036854775808
          · refine cnt (decide_eq_true (show (n : Int) ≤ 9223372036854775808 by omega)) ?_
            refine .seq ?_
            refine .region ?_
            refine ldb (cs := [.d (.i .u64 (n : Int))]) (c := .d (.i .u64 (n : Int))) rfl rfl ?_ au1
            refine vk (vng) ?_
            refine vk (vcv u64 i64) ?_
            refine asd ?_
            refine asd ?_
            refine rn ?_
            refine .ret ?_
            refine ⟨by decide, ?_, rfl, rfl⟩
            rw [show intV true n = (-(n : Int), true) by rw [intV, if_pos rfl, if_pos hle], ← neg_wrap hle]; rfl
          · refine cnf (decide_eq_false (show ¬ ((n : Int) ≤ 9223372036854775808) by omega)) ?_
            refine .seq ?_
            refine .region ?_
            refine vk (vfa gF_R_0) ?_
            refine vk (vldp ga_bool) ?_
            refine vk (vnt) ?_
            refine mvd ?_
            refine gf ?_
            refine gf ?_
            refine vk (vpkd) ?_
            refine asd ?_
            refine rn ?_
            refine cnf rfl ?_
            refine .skip ?_
            show AW _ _ _ _ _ _
            refine .seq ?_
            refine .region ?_
            refine asd ?_
            refine asd ?_
            refine rn ?_
            refine .ret ?_
            exact ⟨by decide, by rw [show intV true n = (0, false) by rw [intV, if_pos rfl, if_neg hle]]; rfl, rfl, rfl⟩
        | false =>
          refine .seq ?_
          refine .block ?_
          refine .seq ?_
          refine .region ?_
          refine vk (vfa gF_R_0) ?_
          refine vk (vldp ga_bool) ?_
          refine mvd ?_
          refine gf ?_
          refine gf ?_
          refine vk (vpkd) ?_
          refine asd ?_
          refine rn ?_
          refine cnf rfl ?_
          refine .seq ?_
          refine .region ?_
          refine vk (vfa gF_R_0) ?_
          refine vk (vldp ga_bool) ?_
          refine vk (vnt) ?_
          refine mvd ?_
          refine ldb (cs := [.d (.i .u64 (n : Int))]) (c := .d (.i .u64 (n : Int))) rfl rfl ?_ au1
          refine vk (vbi) ?_
          refine vk (vpkd) ?_
          refine asd ?_
          refine rn ?_
          by_cases hlt : n < 9223372036854775808
          · refine cnt (decide_eq_true (show (n : Int) < 9223372036854775808 by omega)) ?_
            refine .seq ?_
            refine .region ?_
            refine ldb (cs := [.d (.i .u64 (n : Int))]) (c := .d (.i .u64 (n : Int))) rfl rfl ?_ au1
            refine vk (vcv u64 i64) ?_
            refine asd ?_
            refine asd ?_
            refine rn ?_
            refine .ret ?_
            refine ⟨by decide, ?_, rfl, rfl⟩
            rw [show intV false n = ((n : Int), true) by rw [intV, if_neg (by decide), if_pos hlt]]
            have := wraps_i64 (n : Int) (by omega) (by omega)
            exact (show AV.tup [.d (.i .i64 (n : Int)), .d (.b true)] = .tup [.d (.i .i64 (IntKind.i64.wrap (n : Int))), .d (.b true)] by rw [this]).trans rfl
          · refine cnf (decide_eq_false (show ¬ ((n : Int) < 9223372036854775808) by omega)) ?_
            refine .skip ?_
            show AW _ _ _ _ _ _
            refine .seq ?_
            refine .region ?_
            refine asd ?_
            refine asd ?_
            refine rn ?_
            refine .ret ?_
            exact ⟨by decide, by rw [show intV false n = (0, false) by rw [intV, if_neg (by decide), if_neg hlt]]; rfl, rfl, rfl⟩
    · rw [if_neg hb] at h
      cases h
      have hb1 : decide ((64 : Int) < (bitsN (val a.2.1) : Nat)) = true := decide_eq_true (by omega)
      refine cnt hb1 ?_
      refine .seq ?_
      refine .region ?_
      refine asd ?_
      refine asd ?_
      refine rn ?_
      refine .ret ?_
      exact ⟨by decide, rfl, rfl, rfl⟩
end Go.FL
