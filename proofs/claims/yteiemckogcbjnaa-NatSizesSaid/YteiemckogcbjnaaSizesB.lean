/-
  Part 2 of 4 of the proof: the contracts of the functions, the law
-/
import Derived.Test.YteiemckogcbjnaaSizesA
set_option linter.unusedVariables false
/-
  A FUNCTIONAL LOGIC, 16: one rule for each operation of a region, with short names: what is plain is found by 'rfl', the rest of the region comes first, what is to be proved comes behind.
-/
namespace Go.FL
open Go Go.RowKit

/-- Is the operation wanted? Its guard, if it has one, reads as a temporary that is known. -/
def grd (ops : Array Oper) (env : Env) (o : Oper) (yes : Bool) : Bool :=
  match o.guard with
  | none => yes
  | some (j, want) => match ops[j]? with
    | none => false
    | some oj => match oj.dst with
      | none => false
      | some d => match get env d with
        | .d (.b x) => if yes then x == want else x != want
        | _ => false
def refsTo (s : Nat) : Env → Bool
  | [] => false
  | (_, .ref (.t q) _ _) :: r => q == s || refsTo s r
  | (_, .ep (.t q) _ _) :: r => q == s || refsTo s r
  | _ :: r => refsTo s r

section
variable {P : Program} {C : Cx} {X : Snap} {o : Oper} {ops : Array Oper} {Q : Exit → Env → Heap → Prop} {env env' : Env} {H H' : Heap} {a : Act} {w w' : World} {I I' : Nat → Prop} {μ μ' : List Nat} {O O' : Nat → Option Loc}
  {K : Env → Heap → Prop} {k : Nat} {l : List Oper}

/-- The relation asks only what stands under each name. -/
theorem Gh.same (h : ∀ t, get env' t = get env t) : Gh P C env H env' H := fun X a w I μ O _ _ _ hs => by
  have hpl : ∀ p, plAV env' H p = plAV env H p := fun p => by cases p <;> simp [plAV, h]
  refine ⟨I, O, ⟨hs.toMem, fun t => ?_, hs.nt, hs.dfs⟩⟩
  have ht := hs.envr t
  rw [h]
  cases hg : get env t with
  | ref p off len =>
    rw [hg] at ht
    obtain ⟨e, xs, A, n, c, h1, rest⟩ := ht
    exact ⟨e, xs, A, n, c, by rw [hpl]; exact h1, rest⟩
  | ep p i k =>
    rw [hg] at ht
    obtain ⟨e, xs, b, n, c, h1, rest⟩ := ht
    exact ⟨e, xs, b, n, c, by rw [hpl]; exact h1, rest⟩
  | _ => rw [hg] at ht; obtain ⟨bs, h1, h2, h3⟩ := ht.plain rfl; exact .of h1 h2 h3
theorem put_cons {t : Nat} {v : AV} (h : isOwn (get env t) = false) : put env t v = (t, v) :: env := by simp [put, h]
theorem isOwn_clr (p : Pl) (v : AV) : isOwn (clr p v) = isOwn v := by
  cases v <;> first | rfl | (simp only [clr]; split <;> rfl)
theorem clr_noRefs {s : Nat} : ∀ {env : Env}, refsTo s env = false → ∀ t, clr (.t s) (get env t) = get env t := by
  intro env
  induction env with
  | nil => intro _ t; rfl
  | cons x r ih =>
    obtain ⟨q, v⟩ := x
    intro h t
    have hr : refsTo s r = false := by
      cases v <;> first | exact h | (rename_i p _ _; cases p <;> first | exact h | (simp [refsTo] at h; exact h.2))
    simp only [get]
    split
    · cases v <;> first | rfl | (rename_i p _ _; cases p <;> first | rfl | (simp [refsTo] at h; simp [clr, h.1]))
    · exact ih hr t
/-- An own temporary is emptied: nobody looks at it. -/
theorem put_noRefs {s : Nat} {v : AV} (h : refsTo s env = false) : ∀ t, get (put env s v) t = get ((s, v) :: env) t := fun t => by
  simp only [put, get]
  split
  · rfl
  · split
    · rw [get_dropR]; exact clr_noRefs h t
    · rfl

theorem RL.go (hg : grd ops env o true = true) (h : OpOK P C o env H (RL P C ops Q (k + 1) l)) : RL P C ops Q k (o :: l) env H := by
  unfold grd at hg
  split at hg
  · rename_i h1; exact .cons h1 h
  · rename_i j want h1
    split at hg
    · cases hg
    · rename_i oj h2
      split at hg
      · cases hg
      · rename_i d h3
        split at hg
        · rename_i x h4
          simp at hg; subst hg
          exact .guard_t h1 h2 h3 h4 h
        · cases hg
/-- Not wanted. -/
theorem gf {t : Nat} (h : RL P C ops Q (k + 1) l ((t, .un) :: env) H) (hg : grd ops env o false = true := by rfl) (hd : o.dst = some t := by rfl) (hf : isOwn (get env t) = false := by rfl) (ht : okT C.nt t := by rfl) : RL P C ops Q k (o :: l) env H := by
  rw [← put_cons hf] at h
  unfold grd at hg
  split at hg
  · cases hg
  · rename_i j want h1
    split at hg
    · cases hg
    · rename_i oj h2
      split at hg
      · cases hg
      · rename_i d h3
        split at hg
        · rename_i x h4
          simp at hg
          exact .guard_f h1 h2 h3 h4 hg hd ht h
        · cases hg
theorem gf0 (h : RL P C ops Q (k + 1) l env H) (hg : grd ops env o false = true := by rfl) (hd : o.dst = none := by rfl) : RL P C ops Q k (o :: l) env H := by
  unfold grd at hg
  split at hg
  · cases hg
  · rename_i j want h1
    split at hg
    · cases hg
    · rename_i oj h2
      split at hg
      · cases hg
      · rename_i d h3
        split at hg
        · rename_i x h4
          simp at hg
          exact .guard_f0 h1 h2 h3 h4 hg hd h
        · cases hg

theorem lk_copy {x : Operand} {av : AV} (hv : lk env x = av) (hn : av ≠ .un) : fitsO x (aoOf x) = true ∧ look env (aoOf x) = av := lk_fits hv hn

/-! moves -/
theorem mvd {x : Operand} {t : Nat} {v : DV} (h : RL P C ops Q (k + 1) l ((t, .d v) :: env) H) (hg : grd ops env o true = true := by rfl) (ho : o.op = .move x := by rfl) (hv : lk env x = .d v := by rfl) (hd : o.dst = some t := by rfl)
    (hf : isOwn (get env t) = false := by rfl) (ht : okT C.nt t := by rfl) : RL P C ops Q k (o :: l) env H := by
  obtain ⟨h1, h2⟩ := lk_copy hv (by simp)
  rw [← put_cons hf] at h
  exact .go hg (ok_mv_copy (.inl ho) h1 hd ht (by rw [h2]; rfl) (by rw [h2]; rfl) (by rw [h2]; exact h))
theorem asd {x : Operand} {t : Nat} {v : DV} (h : RL P C ops Q (k + 1) l ((t, .d v) :: env) H) (hg : grd ops env o true = true := by rfl) (ho : o.op = .assign x := by rfl) (hv : lk env x = .d v := by rfl) (hd : o.dst = some t := by rfl)
    (hf : isOwn (get env t) = false := by rfl) (ht : okT C.nt t := by rfl) : RL P C ops Q k (o :: l) env H := by
  obtain ⟨h1, h2⟩ := lk_copy hv (by simp)
  rw [← put_cons hf] at h
  exact .go hg (ok_mv_copy (.inr ho) h1 hd ht (by rw [h2]; rfl) (by rw [h2]; rfl) (by rw [h2]; exact h))
theorem mvn {x : Operand} {t : Nat} (h : RL P C ops Q (k + 1) l ((t, .nl) :: env) H) (hg : grd ops env o true = true := by rfl) (ho : o.op = .move x := by rfl) (hv : lk env x = .nl := by rfl) (hd : o.dst = some t := by rfl)
    (hf : isOwn (get env t) = false := by rfl) (ht : okT C.nt t := by rfl) : RL P C ops Q k (o :: l) env H := by
  obtain ⟨h1, h2⟩ := lk_copy hv (by simp)
  rw [← put_cons hf] at h
  exact .go hg (ok_mv_copy (.inl ho) h1 hd ht (by rw [h2]; rfl) (by rw [h2]; rfl) (by rw [h2]; exact h))
theorem asn {x : Operand} {t : Nat} (h : RL P C ops Q (k + 1) l ((t, .nl) :: env) H) (hg : grd ops env o true = true := by rfl) (ho : o.op = .assign x := by rfl) (hv : lk env x = .nl := by rfl) (hd : o.dst = some t := by rfl)
    (hf : isOwn (get env t) = false := by rfl) (ht : okT C.nt t := by rfl) : RL P C ops Q k (o :: l) env H := by
  obtain ⟨h1, h2⟩ := lk_copy hv (by simp)
  rw [← put_cons hf] at h
  exact .go hg (ok_mv_copy (.inr ho) h1 hd ht (by rw [h2]; rfl) (by rw [h2]; rfl) (by rw [h2]; exact h))
theorem mvb {x : Operand} {t id off : Nat} (h : RL P C ops Q (k + 1) l ((t, .bp id off) :: env) H) (hg : grd ops env o true = true := by rfl) (ho : o.op = .move x := by rfl) (hv : lk env x = .bp id off := by rfl) (hd : o.dst = some t := by rfl)
    (hf : isOwn (get env t) = false := by rfl) (ht : okT C.nt t := by rfl) : RL P C ops Q k (o :: l) env H := by
  obtain ⟨h1, h2⟩ := lk_copy hv (by simp)
  rw [← put_cons hf] at h
  exact .go hg (ok_mv_copy (.inl ho) h1 hd ht (by rw [h2]; rfl) (by rw [h2]; rfl) (by rw [h2]; exact h))
theorem asb {x : Operand} {t id off : Nat} (h : RL P C ops Q (k + 1) l ((t, .bp id off) :: env) H) (hg : grd ops env o true = true := by rfl) (ho : o.op = .assign x := by rfl) (hv : lk env x = .bp id off := by rfl) (hd : o.dst = some t := by rfl)
    (hf : isOwn (get env t) = false := by rfl) (ht : okT C.nt t := by rfl) : RL P C ops Q k (o :: l) env H := by
  obtain ⟨h1, h2⟩ := lk_copy hv (by simp)
  rw [← put_cons hf] at h
  exact .go hg (ok_mv_copy (.inr ho) h1 hd ht (by rw [h2]; rfl) (by rw [h2]; rfl) (by rw [h2]; exact h))
theorem ne_of_own {s t : Nat} {e : TypeId} {xs : List DV} (hv : get env s = .own e xs) (hf : isOwn (get env t) = false) : s ≠ t := fun e => by subst e; rw [hv] at hf; cases hf
/-- A slice of the call's own is looked at. -/
theorem mvo {s t : Nat} {e : TypeId} {xs : List DV} (h : RL P C ops Q (k + 1) l ((t, .ref (.t s) 0 xs.length) :: env) H) (hg : grd ops env o true = true := by rfl) (ho : o.op = .move (.tmp s) := by rfl) (hv : get env s = .own e xs := by rfl)
    (hd : o.dst = some t := by rfl) (hf : isOwn (get env t) = false := by rfl) (ht : okT C.nt t := by rfl) : RL P C ops Q k (o :: l) env H := by
  rw [← put_cons hf] at h
  exact .go hg (ok_mv_own (.inl ho) rfl hd ht (ne_of_own hv hf) hv h)
theorem mvr {s t off len : Nat} {p : Pl} (h : RL P C ops Q (k + 1) l ((t, .ref p off len) :: env) H) (hg : grd ops env o true = true := by rfl) (ho : o.op = .move (.tmp s) := by rfl) (hv : get env s = .ref p off len := by rfl)
    (hd : o.dst = some t := by rfl) (hf : isOwn (get env t) = false := by rfl) (ht : okT C.nt t := by rfl) (hp : p ≠ .t t := by first | decide | (intro h; cases h)) : RL P C ops Q k (o :: l) env H := by
  rw [← put_cons hf] at h
  exact .go hg (ok_mv_ref (.inl ho) hd ht hp hv h)
/-- A slice of the call's own goes over. -/
theorem aso {s t : Nat} {e : TypeId} {xs : List DV} (h : RL P C ops Q (k + 1) l ((t, .own e xs) :: (s, .un) :: env) H) (hg : grd ops env o true = true := by rfl) (ho : o.op = .assign (.tmp s) := by rfl) (hv : get env s = .own e xs := by rfl)
    (hd : o.dst = some t := by rfl) (hf : isOwn (get env t) = false := by rfl) (hr : refsTo s env = false := by rfl) (ht : okT C.nt t := by rfl) : RL P C ops Q k (o :: l) env H := by
  have hst := ne_of_own hv hf
  refine .go hg (ok_mv_take (.inr ho) hd ht (by rw [hv]; rfl) ?_)
  rw [hv]
  refine RL.gh (Gh.same fun r => ?_) h
  have h1 : isOwn (get (put env s .un) t) = false := by rw [put_noRefs hr]; simp [get, hst, hf]
  rw [put_cons h1]
  simp only [get]
  split
  · rfl
  · have := put_noRefs (v := .un) hr r
    simp only [get] at this
    exact this.symm
theorem mvoo {s t : Nat} {e : TypeId} {xs : List DV} (h : RL P C ops Q (k + 1) l ((t, .own e xs) :: (s, .un) :: env) H) (hg : grd ops env o true = true := by rfl) (ho : o.op = .move (.tmp s) := by rfl) (hv : get env s = .own e xs := by rfl)
    (hd : o.dst = some t := by rfl) (hf : isOwn (get env t) = false := by rfl) (hr : refsTo s env = false := by rfl) (ht : okT C.nt t := by rfl) : RL P C ops Q k (o :: l) env H := by
  have hst := ne_of_own hv hf
  refine .go hg (ok_mv_take (.inl ho) hd ht (by rw [hv]; rfl) ?_)
  rw [hv]
  refine RL.gh (Gh.same fun r => ?_) h
  have h1 : isOwn (get (put env s .un) t) = false := by rw [put_noRefs hr]; simp [get, hst, hf]
  rw [put_cons h1]
  simp only [get]
  split
  · rfl
  · have := put_noRefs (v := .un) hr r
    simp only [get] at this
    exact this.symm
theorem mvt {s t : Nat} {cs : List AV} (h : RL P C ops Q (k + 1) l ((t, .tup cs) :: (s, .un) :: env) H) (hg : grd ops env o true = true := by rfl) (ho : o.op = .move (.tmp s) := by rfl) (hv : get env s = .tup cs := by rfl)
    (hd : o.dst = some t := by rfl) (hf : isOwn (get env t) = false := by rfl) (ht : okT C.nt t := by rfl) : RL P C ops Q k (o :: l) env H := by
  refine .go hg (ok_mv_take (.inl ho) hd ht (by rw [hv]; rfl) ?_)
  rw [hv]
  have h0 : isOwn (get env s) = false := by rw [hv]; rfl
  have h1 : isOwn (get ((s, .un) :: env) t) = false := by
    simp only [get]; split
    · rfl
    · exact hf
  rw [put_cons h0, put_cons h1]
  exact h
/-- 'x = x[:n]'. -/
theorem ass {s t len : Nat} {e : TypeId} {xs : List DV} (h : RL P C ops Q (k + 1) l ((t, .own e (xs.take len)) :: dropR (.t t) env) H) (hg : grd ops env o true = true := by rfl) (ho : o.op = .assign (.tmp s) := by rfl)
    (hv : get env s = .ref (.t t) 0 len := by rfl) (hx : get env t = .own e xs := by rfl) (hd : o.dst = some t := by rfl) (ht : okT C.nt t := by rfl) : RL P C ops Q k (o :: l) env H := by
  refine .go hg (ok_as_self (.inr ho) hd ht hv hx ?_)
  have h1 : put env t .un = (t, .un) :: dropR (.t t) env := by simp [put, hx, isOwn]
  have h2 : isOwn (get ((t, .un) :: dropR (.t t) env) t) = false := by simp [get, isOwn]
  rw [h1, put_cons h2]
  refine RL.gh (Gh.same fun r => ?_) h
  simp only [get]
  split <;> rfl
theorem pkd {c x y : Operand} {t : Nat} {b : Bool} {v : DV} (h : RL P C ops Q (k + 1) l ((t, .d v) :: env) H) (hg : grd ops env o true = true := by rfl) (ho : o.op = .pick c x y := by rfl) (hc : lk env c = .d (.b b) := by rfl)
    (hv : lk env (if b then x else y) = .d v := by rfl) (hd : o.dst = some t := by rfl) (hf : isOwn (get env t) = false := by rfl) (ht : okT C.nt t := by rfl) : RL P C ops Q k (o :: l) env H := by
  obtain ⟨h1, h2⟩ := lk_copy hv (by simp)
  obtain ⟨h3, h4⟩ := lk_copy hc (by simp)
  rw [← put_cons hf] at h
  exact .go hg (ok_pick ho h3 h4 h1 hd ht (by rw [h2]; rfl) (by rw [h2]; rfl) (by rw [h2]; exact h))

/-! arithmetic -/
/-- An operator of two whole numbers that never panics. -/
theorem bi {op : BinOp} {xt yt : TypeId} {x y : Operand} {t : Nat} {q q' : IntKind} {m n : Int} {d : DV} (h : RL P C ops Q (k + 1) l ((t, .d d) :: env) H) (hg : grd ops env o true = true := by rfl) (ho : o.op = .binOp op xt x y yt := by rfl)
    (hx : lk env x = .d (.i q m) := by rfl) (hy : lk env y = .d (.i q' n) := by rfl) (hb : ibin op q m n = some (True, d) := by rfl) (hd : o.dst = some t := by rfl) (hk : (decide (q' = q) || isShift op) = true := by rfl)
    (hf : isOwn (get env t) = false := by rfl) (ht : okT C.nt t := by rfl) : RL P C ops Q k (o :: l) env H := by
  obtain ⟨h1, h2⟩ := lk_copy hx (by simp)
  obtain ⟨h3, h4⟩ := lk_copy hy (by simp)
  rw [← put_cons hf] at h
  exact .go hg (ok_ibin ho h1 h3 hd ht h2 h4 (by simpa using hk) hb trivial h)
/-- .. that may. -/
theorem bic {op : BinOp} {xt yt : TypeId} {x y : Operand} {t : Nat} {q q' : IntKind} {m n : Int} {c : Prop} {d : DV} (hc : c) (h : RL P C ops Q (k + 1) l ((t, .d d) :: env) H) (hg : grd ops env o true = true := by rfl) (ho : o.op = .binOp op xt x y yt := by rfl)
    (hx : lk env x = .d (.i q m) := by rfl) (hy : lk env y = .d (.i q' n) := by rfl) (hb : ibin op q m n = some (c, d) := by rfl) (hd : o.dst = some t := by rfl) (hk : (decide (q' = q) || isShift op) = true := by rfl)
    (hf : isOwn (get env t) = false := by rfl) (ht : okT C.nt t := by rfl) : RL P C ops Q k (o :: l) env H := by
  obtain ⟨h1, h2⟩ := lk_copy hx (by simp)
  obtain ⟨h3, h4⟩ := lk_copy hy (by simp)
  rw [← put_cons hf] at h
  exact .go hg (ok_ibin ho h1 h3 hd ht h2 h4 (by simpa using hk) hb hc h)
/-- .. whose result is known. -/
theorem bie {op : BinOp} {xt yt : TypeId} {x y : Operand} {t : Nat} {q q' : IntKind} {m n : Int} {c : Prop} {d : DV} (d' : DV) (hc : c ∧ d = d') (h : RL P C ops Q (k + 1) l ((t, .d d') :: env) H) (hg : grd ops env o true = true := by rfl) (ho : o.op = .binOp op xt x y yt := by rfl)
    (hx : lk env x = .d (.i q m) := by rfl) (hy : lk env y = .d (.i q' n) := by rfl) (hb : ibin op q m n = some (c, d) := by rfl) (hd : o.dst = some t := by rfl) (hk : (decide (q' = q) || isShift op) = true := by rfl)
    (hf : isOwn (get env t) = false := by rfl) (ht : okT C.nt t := by rfl) : RL P C ops Q k (o :: l) env H := by
  obtain ⟨hc, rfl⟩ := hc
  exact bic hc h hg ho hx hy hb hd hk hf ht
theorem bbn {op : BinOp} {xt yt : TypeId} {x y : Operand} {t : Nat} {b c : Bool} (h : RL P C ops Q (k + 1) l ((t, .d (.b (if op = .eql then b == c else b != c))) :: env) H) (hop : op = .eql ∨ op = .neq) (hu : P.underlying xt = some .bool)
    (hg : grd ops env o true = true := by rfl) (ho : o.op = .binOp op xt x y yt := by rfl)
    (hx : lk env x = .d (.b b) := by rfl) (hy : lk env y = .d (.b c) := by rfl) (hd : o.dst = some t := by rfl) (hf : isOwn (get env t) = false := by rfl) (ht : okT C.nt t := by rfl) : RL P C ops Q k (o :: l) env H := by
  obtain ⟨h1, h2⟩ := lk_copy hx (by simp)
  obtain ⟨h3, h4⟩ := lk_copy hy (by simp)
  rw [← put_cons hf] at h
  exact .go hg (ok_bbin ho hop hu h1 h3 hd ht h2 h4 h)
theorem nt_ {xt : TypeId} {x : Operand} {t : Nat} {b : Bool} (h : RL P C ops Q (k + 1) l ((t, .d (.b (!b))) :: env) H) (hg : grd ops env o true = true := by rfl) (ho : o.op = .unOp .not xt x := by rfl) (hx : lk env x = .d (.b b) := by rfl)
    (hd : o.dst = some t := by rfl) (hf : isOwn (get env t) = false := by rfl) (ht : okT C.nt t := by rfl) : RL P C ops Q k (o :: l) env H := by
  obtain ⟨h1, h2⟩ := lk_copy hx (by simp)
  rw [← put_cons hf] at h
  exact .go hg (ok_not ho h1 hd ht h2 h)
theorem xr {xt : TypeId} {x : Operand} {t : Nat} {q : IntKind} {n : Int} (h : RL P C ops Q (k + 1) l ((t, .d (.i q (bits .xor q (if q.signed then -1 else q.max) n))) :: env) H) (hg : grd ops env o true = true := by rfl) (ho : o.op = .unOp .xor xt x := by rfl)
    (hx : lk env x = .d (.i q n) := by rfl) (hd : o.dst = some t := by rfl) (hf : isOwn (get env t) = false := by rfl) (ht : okT C.nt t := by rfl) : RL P C ops Q k (o :: l) env H := by
  obtain ⟨h1, h2⟩ := lk_copy hx (by simp)
  rw [← put_cons hf] at h
  exact .go hg (ok_xor ho h1 hd ht h2 h)
theorem ng {xt : TypeId} {x : Operand} {t : Nat} {q : IntKind} {n : Int} (h : RL P C ops Q (k + 1) l ((t, .d (.i q (q.wrap (0 - n)))) :: env) H) (hg : grd ops env o true = true := by rfl) (ho : o.op = .unOp .neg xt x := by rfl)
    (hx : lk env x = .d (.i q n) := by rfl) (hd : o.dst = some t := by rfl) (hf : isOwn (get env t) = false := by rfl) (ht : okT C.nt t := by rfl) : RL P C ops Q k (o :: l) env H := by
  obtain ⟨h1, h2⟩ := lk_copy hx (by simp)
  rw [← put_cons hf] at h
  exact .go hg (ok_neg ho h1 hd ht h2 h)
theorem cv {src dst t : Nat} {x : Operand} {q q1 q' : IntKind} {n : Int} (h : RL P C ops Q (k + 1) l ((t, .d (.i q' (q'.wrap n))) :: env) H) (hs : P.underlying src = some (.int q1)) (hd' : P.underlying dst = some (.int q')) (hg : grd ops env o true = true := by rfl)
    (ho : o.op = .convert src dst x := by rfl) (hx : lk env x = .d (.i q n) := by rfl) (hd : o.dst = some t := by rfl) (hf : isOwn (get env t) = false := by rfl) (ht : okT C.nt t := by rfl) : RL P C ops Q k (o :: l) env H := by
  rw [← put_cons hf] at h
  exact .go hg (ok_cvt ho hd ht ⟨q1, hs⟩ hd' hx h)
theorem cve {src dst t : Nat} {x : Operand} {q q1 q' : IntKind} {n : Int} (n' : Int) (hn : q'.wrap n = n') (h : RL P C ops Q (k + 1) l ((t, .d (.i q' n')) :: env) H) (hs : P.underlying src = some (.int q1)) (hd' : P.underlying dst = some (.int q'))
    (hg : grd ops env o true = true := by rfl) (ho : o.op = .convert src dst x := by rfl) (hx : lk env x = .d (.i q n) := by rfl) (hd : o.dst = some t := by rfl) (hf : isOwn (get env t) = false := by rfl) (ht : okT C.nt t := by rfl) :
    RL P C ops Q k (o :: l) env H := by
  subst hn; exact cv h hs hd' hg ho hx hd hf ht

/-! slices -/
theorem ln {c : Call} {x : Operand} {ty t : Nat} {xs : List DV} (h : RL P C ops Q (k + 1) l ((t, .d (.i .i64 xs.length)) :: env) H) (hsz : ∃ sz, ∀ x ∈ xs, x.cells.length = sz) (hu : P.underlying ty = some (.slice (P.elem ty)))
    (hg : grd ops env o true = true := by rfl) (ho : o.op = .call c := by rfl) (hc : c.callee = .builtin .len := by rfl) (hx : c.args = #[x] := by rfl) (hty : c.argTypes = #[ty] := by rfl) (hv : rd env H (lk env x) = some xs := by rfl)
    (hd : o.dst = some t := by rfl) (hf : isOwn (get env t) = false := by rfl) (ht : okT C.nt t := by rfl) : RL P C ops Q k (o :: l) env H := by
  rw [← put_cons hf] at h
  exact .go hg (ok_len ho hc hx hty hu hd ht hv hsz h)
theorem run_lnr {c : Call} {r ty off len : Nat} {p : Pl} (ho : o.op = .call c) (hc : c.callee = .builtin .len) (hx : c.args = #[.tmp r]) (hty : c.argTypes = #[ty]) (hu : P.underlying ty = some (.slice (P.elem ty))) (hv : get env r = .ref p off len) (hs : Sim P X env H a w I μ O) :
    (execOp a.eval o).run P w = .ok (.value (.int .i64 len)) w := by
  have hrr := hs.envr r
  rw [hv] at hrr
  obtain ⟨e', ys, A, n, cc, f1, f2, f3, A', c', q1, q2⟩ := hrr
  have hev : a.eval (.tmp r) = .slice A' len c' := q1
  simp [execOp, ho, resolve, hc, hx, hty, invoke, builtin, hev, run_len_slice w ty o.type A' len c' hu, goInt]
/-- .. of what is looked at. -/
theorem lnr {c : Call} {r ty t off len : Nat} {p : Pl} (h : RL P C ops Q (k + 1) l ((t, .d (.i .i64 len)) :: env) H) (hu : P.underlying ty = some (.slice (P.elem ty)))
    (hg : grd ops env o true = true := by rfl) (ho : o.op = .call c := by rfl) (hc : c.callee = .builtin .len := by rfl) (hx : c.args = #[.tmp r] := by rfl) (hty : c.argTypes = #[ty] := by rfl) (hv : get env r = .ref p off len := by rfl)
    (hd : o.dst = some t := by rfl) (hf : isOwn (get env t) = false := by rfl) (ht : okT C.nt t := by rfl) : RL P C ops Q k (o :: l) env H := by
  rw [← put_cons hf] at h
  exact .go hg (.pure (by simp [ho]) hd ht (fun X a w I μ O _ hs => ⟨_, run_lnr ho hc hx hty hu hv hs, .of_rep (.i _ _)⟩) h)
theorem lns {c : Call} {x : Operand} {ty t : Nat} {s : ByteArray} (h : RL P C ops Q (k + 1) l ((t, .d (.i .i64 s.size)) :: env) H) (hu : P.underlying ty = some .string)
    (hg : grd ops env o true = true := by rfl) (ho : o.op = .call c := by rfl) (hc : c.callee = .builtin .len := by rfl) (hx : c.args = #[x] := by rfl) (hty : c.argTypes = #[ty] := by rfl) (hv : lk env x = .d (.s s) := by rfl)
    (hd : o.dst = some t := by rfl) (hf : isOwn (get env t) = false := by rfl) (ht : okT C.nt t := by rfl) : RL P C ops Q k (o :: l) env H := by
  rw [← put_cons hf] at h
  exact .go hg (ok_len_s ho hc hx hty hu hd ht hv h)
/-- An element's address. -/
theorem ix {x i : Operand} {ty t e sz by_ : Nat} {xs : List DV} {q : IntKind} {z : Int} {v : DV} (n : Nat) (h : RL P C ops Q (k + 1) l ((t, .d (.ptr v.cells)) :: env) H) (hn : z = n) (hx : xs[n]? = some v) (hsz : v.cells.length = sz) (hty : sliceT P ty = some (e, sz, by_))
    (hg : grd ops env o true = true := by rfl) (ho : o.op = .indexAddr ty x i := by rfl) (hv : lk env x = .d (.sl xs) := by rfl) (hi : lk env i = .d (.i q z) := by rfl) (hd : o.dst = some t := by rfl)
    (hf : isOwn (get env t) = false := by rfl) (ht : okT C.nt t := by rfl) : RL P C ops Q k (o :: l) env H := by
  subst hn
  have hl : n < xs.length := (List.getElem?_eq_some_iff.1 hx).1
  have hg' : xs.getD (n : Int).toNat default = v := by simp [List.getD_eq_getElem?_getD, hx]
  obtain ⟨h1, h2⟩ := lk_copy hv (by simp)
  obtain ⟨h3, h4⟩ := lk_copy hi (by simp)
  rw [← put_cons hf] at h
  exact .go hg (ok_iad_d ho h1 h3 hd ht hty h2 h4 (by omega) (by omega) (by rw [hg']; exact hsz) (by rw [hg']; exact h))
/-- .. of a slice of the call's own. -/
theorem ixr {r : Nat} {i : Operand} {ty t e sz by_ off len : Nat} {p : Pl} {xs : List DV} {q : IntKind} {z : Int} (n : Nat) (hn : z = n) (hl : n < len) (h : RL P C ops Q (k + 1) l ((t, .ep p (off + n) 0) :: env) H) (hty : sliceT P ty = some (e, sz, by_)) (hz : 0 < sz)
    (hg : grd ops env o true = true := by rfl) (ho : o.op = .indexAddr ty (.tmp r) i := by rfl) (hv : get env r = .ref p off len := by rfl) (hp : plAV env H p = .own e xs := by rfl) (hi : lk env i = .d (.i q z) := by rfl) (hd : o.dst = some t := by rfl)
    (hf : isOwn (get env t) = false := by rfl) (ht : okT C.nt t := by rfl) (hpt : p ≠ .t t := by first | decide | (intro h; cases h)) : RL P C ops Q k (o :: l) env H := by
  subst hn
  obtain ⟨h3, h4⟩ := lk_copy hi (by simp)
  rw [← put_cons hf] at h
  exact .go hg (ok_iad_ref ho (by simp [fitsO]) h3 hd ht hty hz hv hp hpt h4 (by omega) (by omega) (by simpa using h))
theorem ldp {x : Operand} {ty t : Nat} {v : DV} {cs : List DV} (h : RL P C ops Q (k + 1) l ((t, .d v) :: env) H) (hag : aggT P ty = some false) (hg : grd ops env o true = true := by rfl) (ho : o.op = .load ty x := by rfl)
    (hv : lk env x = .d (.ptr (v :: cs)) := by rfl) (hd : o.dst = some t := by rfl) (hf : isOwn (get env t) = false := by rfl) (ht : okT C.nt t := by rfl) : RL P C ops Q k (o :: l) env H := by
  obtain ⟨h1, h2⟩ := lk_copy hv (by simp)
  rw [← put_cons hf] at h
  exact .go hg (ok_ld_ptr ho h1 hd ht hag h2 (by simp) h)
theorem lde {s ty t i j e : Nat} {p : Pl} {xs : List DV} (v : DV) (hx : ∃ x, xs[i]? = some x ∧ x.cells[j]? = some v) (h : RL P C ops Q (k + 1) l ((t, .d v) :: env) H) (hag : aggT P ty = some false) (hg : grd ops env o true = true := by rfl)
    (ho : o.op = .load ty (.tmp s) := by rfl) (hv : get env s = .ep p i j := by rfl) (hp : plAV env H p = .own e xs := by rfl) (hd : o.dst = some t := by rfl) (hf : isOwn (get env t) = false := by rfl) (ht : okT C.nt t := by rfl) :
    RL P C ops Q k (o :: l) env H := by
  obtain ⟨x, hx, hj⟩ := hx
  rw [← put_cons hf] at h
  refine .go hg (ok_ld_ep ho (by simp [fitsO]) hd ht hag hv hp ?_)
  simpa [List.getD_eq_getElem?_getD, hx, hj] using h
/-- An element is given another value. -/
theorem ste {y : Operand} {r ty i e : Nat} {p : Pl} {xs : List DV} {v : DV} (hx : ∃ x, xs[i]? = some x ∧ x.leaf = true) (h : RL P C ops Q (k + 1) l (setE p (.own e (xs.set i v)) env) (setP p (.own e (xs.set i v)) H)) (hsz : szOf P ty = 1)
    (hg : grd ops env o true = true := by rfl) (ho : o.op = .store ty (.tmp r) y := by rfl) (hv : get env r = .ep p i 0 := by rfl) (hp : plAV env H p = .own e xs := by rfl) (hy : lk env y = .d v := by rfl) (h1 : v.leaf = true := by rfl) (hd : o.dst = none := by rfl)
    (hn : ∀ id off, p = .c id off → C.n0 ≤ id := by (intro _ _ h; cases h <;> decide)) : RL P C ops Q k (o :: l) env H := by
  obtain ⟨x, hx, hxl⟩ := hx
  obtain ⟨h3, h4⟩ := lk_copy hy (by simp)
  refine .go hg (ok_st_ep ho (by simp [fitsO]) h3 hd hsz hv hp hn h4 h1 ?_ h)
  simp [List.getD_eq_getElem?_getD, hx, DV.leaf_cells hxl, DV.leaf_cells h1]
/-- A byte of a text. -/
theorem ids {x i : Operand} {ty t : Nat} {s : ByteArray} {q : IntKind} {z : Int} {b : UInt8} (n : Nat) (hn : z = n) (hb : s.data.toList[n]? = some b) (h : RL P C ops Q (k + 1) l ((t, .d (.i .u8 b.toNat)) :: env) H) (hty : P.underlying ty = some .string)
    (hg : grd ops env o true = true := by rfl) (ho : o.op = .index ty x i := by rfl) (hv : lk env x = .d (.s s) := by rfl) (hi : lk env i = .d (.i q z) := by rfl) (hd : o.dst = some t := by rfl) (hf : isOwn (get env t) = false := by rfl) (ht : okT C.nt t := by rfl) :
    RL P C ops Q k (o :: l) env H := by
  subst hn
  obtain ⟨h1, h2⟩ := lk_copy hv (by simp)
  obtain ⟨h3, h4⟩ := lk_copy hi (by simp)
  have hl : n < s.size := by have := (List.getElem?_eq_some_iff.1 hb).1; simpa using this
  rw [← put_cons hf] at h
  refine .go hg (ok_idx ho h1 h3 hd ht hty h2 h4 (by omega) (by omega) ?_)
  simpa [List.getD_eq_getElem?_getD, hb] using h
/-! calls -/
theorem cl {c : Call} {fo : Operand} {f t : Nat} {first xs caps : List DV} {r : AV} (h : RL P C ops Q (k + 1) l ((t, r) :: env) H) (hfn : Fn P f (first ++ xs ++ caps) r) (hcall : ∀ args w, (callFunc f args).run P w = .ok (.enter f args) w)
    (hg : grd ops env o true = true := by rfl) (ho : o.op = .call c := by rfl) (hc : c.callee = .value fo := by rfl) (hfo : lk env fo = .d (.fn f first caps) := by rfl) (ha : argsD env c.args.toList = some xs := by rfl) (hd : o.dst = some t := by rfl)
    (hf : isOwn (get env t) = false := by rfl) (ht : okT C.nt t := by rfl) : RL P C ops Q k (o :: l) env H := by
  rw [← put_cons hf] at h
  refine .go hg (OpOK.call ho hc hfo ha hcall hfn (fun t' h' => by rw [hd] at h'; cases h'; exact ht) ?_)
  rw [hd]; exact h
theorem ex {s t i : Nat} {cs : List AV} {v : AV} (h : RL P C ops Q (k + 1) l ((t, v) :: (s, .tup (cs.set i .un)) :: env) H) (hg : grd ops env o true = true := by rfl) (ho : o.op = .extract (.tmp s) i := by rfl) (hv : get env s = .tup cs := by rfl) (hc : cs[i]? = some v := by rfl)
    (hd : o.dst = some t := by rfl) (hr : isRef v = false := by rfl) (hf : isOwn (get env t) = false := by rfl) (ht : okT C.nt t := by rfl) (hst : s ≠ t := by decide) : RL P C ops Q k (o :: l) env H := by
  have hi : i < cs.length := (List.getElem?_eq_some_iff.1 hc).1
  have hg' : cs.getD i .un = v := by simp [List.getD_eq_getElem?_getD, hc]
  refine .go hg (ok_ext ho (by simp [fitsO]) hd ht hst hv hi (by rw [hg']; exact hr) ?_)
  rw [hg', put_cons (by simp [get, hst, hf])]; exact h
theorem wrap64 {z : Int} (h1 : -9223372036854775808 ≤ z) (h2 : z ≤ 9223372036854775807) : IntKind.i64.wrap z = z := by
  simp only [IntKind.wrap, IntKind.bits, IntKind.signed]
  simp
  omega
/-- Whole numbers of 64 bits, added, taken off, multiplied, with no overflow. -/
theorem ad {xt yt : TypeId} {x y : Operand} {t : Nat} {q' : IntKind} {m n : Int} (z : Int) (hz : m + n = z ∧ -9223372036854775808 ≤ z ∧ z ≤ 9223372036854775807) (h : RL P C ops Q (k + 1) l ((t, .d (.i .i64 z)) :: env) H)
    (hg : grd ops env o true = true := by rfl) (ho : o.op = .binOp .add xt x y yt := by rfl)
    (hx : lk env x = .d (.i .i64 m) := by rfl) (hy : lk env y = .d (.i q' n) := by rfl) (hd : o.dst = some t := by rfl) (hk : q' = .i64 := by rfl)
    (hf : isOwn (get env t) = false := by rfl) (ht : okT C.nt t := by rfl) : RL P C ops Q k (o :: l) env H := by
  obtain ⟨rfl, h1, h2⟩ := hz
  exact bie (.i .i64 (m + n)) ⟨trivial, by rw [wrap64 h1 h2]⟩ h hg ho hx hy rfl hd (by simp [hk]) hf ht
theorem su {xt yt : TypeId} {x y : Operand} {t : Nat} {q' : IntKind} {m n : Int} (z : Int) (hz : m - n = z ∧ -9223372036854775808 ≤ z ∧ z ≤ 9223372036854775807) (h : RL P C ops Q (k + 1) l ((t, .d (.i .i64 z)) :: env) H)
    (hg : grd ops env o true = true := by rfl) (ho : o.op = .binOp .sub xt x y yt := by rfl)
    (hx : lk env x = .d (.i .i64 m) := by rfl) (hy : lk env y = .d (.i q' n) := by rfl) (hd : o.dst = some t := by rfl) (hk : q' = .i64 := by rfl)
    (hf : isOwn (get env t) = false := by rfl) (ht : okT C.nt t := by rfl) : RL P C ops Q k (o :: l) env H := by
  obtain ⟨rfl, h1, h2⟩ := hz
  exact bie (.i .i64 (m - n)) ⟨trivial, by rw [wrap64 h1 h2]⟩ h hg ho hx hy rfl hd (by simp [hk]) hf ht
theorem ml {xt yt : TypeId} {x y : Operand} {t : Nat} {q' : IntKind} {m n : Int} (z : Int) (hz : m * n = z ∧ -9223372036854775808 ≤ z ∧ z ≤ 9223372036854775807) (h : RL P C ops Q (k + 1) l ((t, .d (.i .i64 z)) :: env) H)
    (hg : grd ops env o true = true := by rfl) (ho : o.op = .binOp .mul xt x y yt := by rfl)
    (hx : lk env x = .d (.i .i64 m) := by rfl) (hy : lk env y = .d (.i q' n) := by rfl) (hd : o.dst = some t := by rfl) (hk : q' = .i64 := by rfl)
    (hf : isOwn (get env t) = false := by rfl) (ht : okT C.nt t := by rfl) : RL P C ops Q k (o :: l) env H := by
  obtain ⟨rfl, h1, h2⟩ := hz
  exact bie (.i .i64 (m * n)) ⟨trivial, by rw [wrap64 h1 h2]⟩ h hg ho hx hy rfl hd (by simp [hk]) hf ht

/-! more of slices -/
/-- A part of a deep slice. -/
theorem sl {x : Operand} {ty t e sz by_ : Nat} {lo hi mx : Option Operand} {xs : List DV} {zl zh zm : Int} (l' h' : Nat) (hb : zl = l' ∧ zh = h' ∧ l' ≤ h' ∧ zh ≤ zm ∧ zm ≤ xs.length) (h : RL P C ops Q (k + 1) l ((t, .d (.sl ((xs.drop l').take (h' - l')))) :: env) H) (hsz : ∀ x ∈ xs, x.cells.length = sz) (hty : sliceT P ty = some (e, sz, by_)) (hg : grd ops env o true = true := by rfl) (ho : o.op = .slice ty x lo hi mx := by rfl) (hv : lk env x = .d (.sl xs) := by rfl)
    (hl : lookB env 0 (lo.map aoOf) = some zl := by rfl) (hh : lookB env xs.length (hi.map aoOf) = some zh := by rfl) (hm : lookB env zh (mx.map aoOf) = some zm := by rfl)
    (hfl : fitsOo lo (lo.map aoOf) = true := by rfl) (hfh : fitsOo hi (hi.map aoOf) = true := by rfl) (hfm : fitsOo mx (mx.map aoOf) = true := by rfl) (hmh : (mx.isNone || hi.isSome) = true := by rfl)
    (hd : o.dst = some t := by rfl) (hf : isOwn (get env t) = false := by rfl) (ht : okT C.nt t := by rfl) : RL P C ops Q k (o :: l) env H := by
  obtain ⟨rfl, rfl, h1, h2, h3⟩ := hb
  obtain ⟨k1, k2⟩ := lk_copy hv (by simp)
  rw [← put_cons hf] at h
  refine .go hg (ok_slc_d ho k1 hfl hfh hfm hd ht hty k2 hl hh hm ?_ (by omega) (by omega) h2 h3 hsz (by simpa using h))
  cases mx <;> cases hi <;> simp at hmh ⊢
/-- A part of a slice of the call's own is looked at. -/
theorem slr {r : Nat} {ty t e sz by_ off len : Nat} {p : Pl} {lo hi : Option Operand} {xs : List DV} {zl zh : Int} (l' h' : Nat) (hb : zl = l' ∧ zh = h' ∧ l' ≤ h' ∧ h' ≤ len) (h : RL P C ops Q (k + 1) l ((t, .ref p (off + l') (h' - l')) :: env) H) (hty : sliceT P ty = some (e, sz, by_)) (hg : grd ops env o true = true := by rfl) (ho : o.op = .slice ty (.tmp r) lo hi none := by rfl) (hv : get env r = .ref p off len := by rfl) (hp : plAV env H p = .own e xs := by rfl)
    (hl : lookB env 0 (lo.map aoOf) = some zl := by rfl) (hh : lookB env len (hi.map aoOf) = some zh := by rfl)
    (hfl : fitsOo lo (lo.map aoOf) = true := by rfl) (hfh : fitsOo hi (hi.map aoOf) = true := by rfl)
    (hd : o.dst = some t := by rfl) (hf : isOwn (get env t) = false := by rfl) (ht : okT C.nt t := by rfl) (hpt : p ≠ .t t := by first | decide | (intro h; cases h)) : RL P C ops Q k (o :: l) env H := by
  obtain ⟨rfl, rfl, h1, h2⟩ := hb
  rw [← put_cons hf] at h
  exact .go hg (ok_slc_ref ho (by simp [fitsO]) hfl hfh hd ht hty hv hp hpt hl hh (by omega) (by omega) (by omega) (by simpa using h))
/-- 'x[n:n:n]'. -/
theorem sln {x : Operand} {ty t e sz by_ : Nat} {z : Value} {lo hi mx : Option Operand} {xs : List DV} {zl : Int} (hb : 0 ≤ zl ∧ zl ≤ xs.length) (h : RL P C ops Q (k + 1) l ((t, .own e []) :: env) H) (hsz : ∀ x ∈ xs, x.cells.length = sz) (hT : elemT P ty = some (e, sz, by_, z))
    (hg : grd ops env o true = true := by rfl) (ho : o.op = .slice ty x lo hi mx := by rfl) (hv : rd env H (lk env x) = some xs := by rfl)
    (hl : lookB env 0 (lo.map aoOf) = some zl := by rfl) (hh : lookB env 0 (hi.map aoOf) = some zl := by rfl) (hm : lookB env 0 (mx.map aoOf) = some zl := by rfl)
    (hfl : fitsOo lo (lo.map aoOf) = true := by rfl) (hfh : fitsOo hi (hi.map aoOf) = true := by rfl) (hfm : fitsOo mx (mx.map aoOf) = true := by rfl) (h1 : hi.isSome = true := by rfl) (h2 : mx.isSome = true := by rfl)
    (hd : o.dst = some t := by rfl) (hf : isOwn (get env t) = false := by rfl) (ht : okT C.nt t := by rfl) : RL P C ops Q k (o :: l) env H := by
  rw [← put_cons hf] at h
  exact .go hg (ok_slc_none ho hfl hfh hfm (by cases hi <;> simp at h1 ⊢) (by cases mx <;> simp at h2 ⊢) hd ht hT hv hsz hl hh hm hb.1 hb.2 h)

/-- append: to a slice of the call's own in a temporary of its own (r). -/
theorem apo {c : Call} {y : Operand} {r ty t e sz by_ : Nat} {z : Value} {xs ys : List DV} (hb : xs.length + ys.length ≤ 9223372036854775807 ∧ (xs.length + ys.length) * by_ ≤ 140737488355328) (h : RL P C ops Q (k + 1) l ((t, .own e (xs ++ ys)) :: (r, .un) :: env) H) (hsz : ∀ x ∈ ys, x.cells.length = sz)
    (hT : elemT P ty = some (e, sz, by_, z)) (hg : grd ops env o true = true := by rfl) (ho : o.op = .call c := by rfl) (hc : c.callee = .builtin .append := by rfl)
    (hx : c.args = #[.tmp r, y] := by rfl) (hty : c.argTypes = #[ty, ty] := by rfl) (hv : get env r = .own e xs := by rfl) (hy : rd env H (lk env y) = some ys := by rfl) (hd : o.dst = some t := by rfl)
    (hf : isOwn (get env t) = false := by rfl) (hr : refsTo r env = false := by rfl) (ht : okT C.nt t := by rfl) : RL P C ops Q k (o :: l) env H := by
  have hst := ne_of_own hv hf
  refine .go hg (ok_app_own ho hc hx hty hd ht (by simp [fitsO]) hT hv hy hsz (by simpa [maxLen] using hb.1) hb.2 ?_)
  refine RL.gh (Gh.same fun q => ?_) h
  have h1 : isOwn (get (put env r .un) t) = false := by rw [put_noRefs hr]; simp [get, hst, hf]
  rw [put_cons h1]
  simp only [get]
  split
  · rfl
  · have := put_noRefs (v := .un) hr q
    simp only [get] at this
    exact this.symm
theorem dropR_only {s r : Nat} (h : refsTo s ((r, .un) :: env.filter fun x => x.1 != r) = false) (t : Nat) (ht : t ≠ r) : clr (.t s) (get env t) = get env t := by
  have hf : ∀ env : Env, get (env.filter fun x => x.1 != r) t = get env t := fun env => by
    induction env with
    | nil => rfl
    | cons x xs ih =>
      obtain ⟨q, v⟩ := x
      by_cases hq : q = r
      · subst hq; simp [get, ih, Ne.symm ht]
      · have hq' : (q != r) = true := by simpa using hq
        rw [List.filter_cons_of_pos (by exact hq')]
        simp only [get, ih]
  have := clr_noRefs h t
  simpa [get, Ne.symm ht, hf] using this
/-- .. at which another temporary (r) looks. -/
theorem apr {c : Call} {y : Operand} {r s ty t e sz by_ len : Nat} {z : Value} {xs ys : List DV} (hb : len + ys.length ≤ 9223372036854775807 ∧ (len + ys.length) * by_ ≤ 140737488355328) (h : RL P C ops Q (k + 1) l ((t, .own e (xs.take len ++ ys)) :: (s, .un) :: (r, .un) :: env) H) (hsz : ∀ x ∈ ys, x.cells.length = sz)
    (hT : elemT P ty = some (e, sz, by_, z)) (hg : grd ops env o true = true := by rfl) (ho : o.op = .call c := by rfl) (hc : c.callee = .builtin .append := by rfl)
    (hx : c.args = #[.tmp r, y] := by rfl) (hty : c.argTypes = #[ty, ty] := by rfl) (hv : get env r = .ref (.t s) 0 len := by rfl) (hp : get env s = .own e xs := by rfl) (hy : rd env H (lk env y) = some ys := by rfl) (hd : o.dst = some t := by rfl)
    (hf : isOwn (get env t) = false := by rfl) (hr : refsTo s ((r, .un) :: env.filter fun x => x.1 != r) = false := by rfl) (ht : okT C.nt t := by rfl) : RL P C ops Q k (o :: l) env H := by
  have hst := ne_of_own hp hf
  refine .go hg (ok_app_ref ho hc hx hty hd ht (by simp [fitsO]) hT hv hp hy hsz (by simpa [maxLen] using hb.1) hb.2 ?_)
  refine RL.gh (Gh.same fun q => ?_) h
  have hput : put env s .un = (s, .un) :: dropR (.t s) env := by simp [put, hp, isOwn]
  rw [hput]
  have h1 : isOwn (get ((s, .un) :: dropR (.t s) env) t) = false := by
    simp only [get, if_neg hst, get_dropR, isOwn_clr]; exact hf
  rw [put_cons h1]
  simp only [get, get_dropR]
  split
  · rfl
  · split
    · rfl
    · split
      · rename_i hq; subst hq; rw [hv]; simp [clr]
      · rename_i hq; exact (dropR_only hr q (Ne.symm hq)).symm
theorem apn {c : Call} {x y : Operand} {ty t e sz by_ : Nat} {z : Value} {ys : List DV} (hb : ys.length ≤ 9223372036854775807 ∧ ys.length * by_ ≤ 140737488355328) (h : RL P C ops Q (k + 1) l ((t, .own e ys) :: env) H) (hsz : ∀ x ∈ ys, x.cells.length = sz)
    (hT : elemT P ty = some (e, sz, by_, z)) (hg : grd ops env o true = true := by rfl) (ho : o.op = .call c := by rfl) (hc : c.callee = .builtin .append := by rfl)
    (hx : c.args = #[x, y] := by rfl) (hty : c.argTypes = #[ty, ty] := by rfl) (hv : lk env x = .nl := by rfl) (hy : rd env H (lk env y) = some ys := by rfl) (hd : o.dst = some t := by rfl)
    (hf : isOwn (get env t) = false := by rfl) (ht : okT C.nt t := by rfl) : RL P C ops Q k (o :: l) env H := by
  rw [← put_cons hf] at h
  exact .go hg (ok_app_nl ho hc hx hty hd ht hT hv hy hsz (by simpa [maxLen] using hb.1) hb.2 h)
theorem mk {x c : Operand} {ty t e by_ : Nat} {z : Value} {q q' : IntKind} {zl zc : Int} (n : Nat) (hn : zl = n ∧ zc = n) (hb : by_ * n ≤ 281474976710656 ∧ n ≤ 9223372036854775807) (h : RL P C ops Q (k + 1) l ((t, .own e (List.replicate n (zrep z))) :: env) H)
    (hT : elemT P ty = some (e, 1, by_, z)) (hz : zok z = true) (hg : grd ops env o true = true := by rfl) (ho : o.op = .makeSlice ty x c := by rfl) (hx : lk env x = .d (.i q zl) := by rfl) (hc : lk env c = .d (.i q' zc) := by rfl) (hd : o.dst = some t := by rfl)
    (hf : isOwn (get env t) = false := by rfl) (ht : okT C.nt t := by rfl) : RL P C ops Q k (o :: l) env H := by
  obtain ⟨rfl, rfl⟩ := hn
  rw [← put_cons hf] at h
  exact .go hg (ok_make ho hd ht hT hz hx hc hb.1 (by simpa [maxLen] using hb.2) h)
theorem bsl {ty t e sz by_ len : Nat} {z : Value} {parts : Array (Nat × Operand)} {xs : List Operand} {ds : List DV} (hsz : ∀ d ∈ ds, d.flat = true ∧ d.cells.length = sz) (h : RL P C ops Q (k + 1) l ((t, .own e ds) :: env) H) (hT : elemT P ty = some (e, sz, by_, z))
    (hg : grd ops env o true = true := by rfl) (ho : o.op = .buildSlice ty len parts := by rfl) (hp : partXs 0 parts.toList = some xs := by rfl) (hlen : xs.length = len := by rfl) (ha : argsD env xs = some ds := by rfl) (hd : o.dst = some t := by rfl)
    (hf : isOwn (get env t) = false := by rfl) (ht : okT C.nt t := by rfl) (hsmall : len * sz ≤ 16777216 := by decide) : RL P C ops Q k (o :: l) env H := by
  rw [← put_cons hf] at h
  exact .go hg (ok_bsl ho hd ht hT hp hlen ha hsz hsmall h)
theorem nq {op : BinOp} {xt yt e : TypeId} {x y : Operand} {t : Nat} {xs : List DV} (h : ∀ b, (xs ≠ [] → b = false) → RL P C ops Q (k + 1) l ((t, .d (.b (if op = .eql then b else !b))) :: env) H) (hsz : ∃ sz, ∀ x ∈ xs, x.cells.length = sz) (hu : P.underlying xt = some (.slice e))
    (hg : grd ops env o true = true := by rfl) (ho : o.op = .binOp op xt x y yt := by rfl) (hx : rd env H (lk env x) = some xs := by rfl) (hy : lk env y = .nl := by rfl) (hd : o.dst = some t := by rfl)
    (hf : isOwn (get env t) = false := by rfl) (ht : okT C.nt t := by rfl) (hop : op = .eql ∨ op = .neq := by simp) : RL P C ops Q k (o :: l) env H := by
  exact .go hg (ok_nilq ho hop hu hd ht hx hsz hy fun b hb => by rw [put_cons hf]; exact h b hb)
theorem mn {c : Call} {x y : Operand} {t : Nat} {q q' : IntKind} {m n : Int} (h : RL P C ops Q (k + 1) l ((t, .d (.i q (if n < m then n else m))) :: env) H) (hg : grd ops env o true = true := by rfl) (ho : o.op = .call c := by rfl) (hc : c.callee = .builtin .min := by rfl)
    (hx : c.args = #[x, y] := by rfl) (hxv : lk env x = .d (.i q m) := by rfl) (hyv : lk env y = .d (.i q' n) := by rfl) (hd : o.dst = some t := by rfl) (hf : isOwn (get env t) = false := by rfl) (ht : okT C.nt t := by rfl) : RL P C ops Q k (o :: l) env H := by
  rw [← put_cons hf] at h
  exact .go hg (ok_min ho hc hx hd ht hxv hyv h)
theorem mx {c : Call} {x y : Operand} {t : Nat} {q q' : IntKind} {m n : Int} (h : RL P C ops Q (k + 1) l ((t, .d (.i q (if m < n then n else m))) :: env) H) (hg : grd ops env o true = true := by rfl) (ho : o.op = .call c := by rfl) (hc : c.callee = .builtin .max := by rfl)
    (hx : c.args = #[x, y] := by rfl) (hxv : lk env x = .d (.i q m) := by rfl) (hyv : lk env y = .d (.i q' n) := by rfl) (hd : o.dst = some t := by rfl) (hf : isOwn (get env t) = false := by rfl) (ht : okT C.nt t := by rfl) : RL P C ops Q k (o :: l) env H := by
  rw [← put_cons hf] at h
  exact .go hg (ok_max ho hc hx hd ht hxv hyv h)
/-- What is only looked at here becomes deep. -/
theorem fz {p : Pl} {e : TypeId} {xs : List DV} (h : RL P C ops Q k l (frzE p xs env) (frzH p xs H)) (hp : plAV env H p = .own e xs := by rfl) (hn : ∀ id off, p = .c id off → C.n0 ≤ id := by (intro _ _ h; cases h <;> decide)) : RL P C ops Q k l env H := .gh (Gh.frz hp hn) h
/-! code -/
/-- A region's end: on to what stands behind it. -/
theorem rn {K : Env → Heap → Prop} (h : K env H) : RL P C ops (thenQ K Q) k [] env H := RL.nil h
/-- Two pieces of code, by what stands between them. -/
theorem AW.mid {x y : Code} (R : Env → Heap → Prop) (h1 : AW P C x (thenQ R Q) env H) (h2 : ∀ env' H', R env' H' → AW P C y Q env' H') : AW P C (.seq x y) Q env H :=
  .seq (h1.mono fun e env' H' h => by cases e <;> first | exact h2 _ _ h | exact h)
theorem AW.loop {c : Code} (h : AL P C c Q env H) : AW P C (.loop c) Q env H := AL.loop h
theorem AL.cast {c : Code} (he : env = env') (h : AL P C c Q env' H) : AL P C c Q env H := he ▸ h
theorem AL.castH {c : Code} (he : H = H') (h : AL P C c Q env H') : AL P C c Q env H := he ▸ h
theorem AL.ind {c : Code} {σ : Type} (m : σ → Nat) (e : σ → Env) (h : σ → Heap) (I : σ → Prop)
    (step : ∀ s, I s → (∀ s', I s' → m s' < m s → AL P C c Q (e s') (h s')) → AW P C c (thenQ (AL P C c Q) Q) (e s) (h s)) : ∀ s, I s → AL P C c Q (e s) (h s) := by
  suffices H : ∀ n s, m s = n → I s → AL P C c Q (e s) (h s) from fun s hs => H _ s rfl hs
  intro n
  induction n using Nat.strongRecOn with
  | ind n ih =>
    intro s hm hs
    exact .round (step s hs fun s' h1 h2 => ih (m s') (by omega) s' rfl h1)
theorem cnd {t : Nat} {x : Bool} {c1 c2 : Code} (h1 : x = true → AW P C c1 Q env H) (h2 : x = false → AW P C c2 Q env H) (hx : get env t = .d (.b x) := by rfl) : AW P C (.cond (.tmp t) c1 c2) Q env H := .cond hx h1 h2
theorem cndt {t : Nat} {c1 c2 : Code} (h1 : AW P C c1 Q env H) (hx : get env t = .d (.b true) := by rfl) : AW P C (.cond (.tmp t) c1 c2) Q env H := .cond hx (fun _ => h1) (fun h => by cases h)
theorem cndf {t : Nat} {c1 c2 : Code} (h2 : AW P C c2 Q env H) (hx : get env t = .d (.b false) := by rfl) : AW P C (.cond (.tmp t) c1 c2) Q env H := .cond hx (fun h => by cases h) (fun _ => h2)
end
end Go.FL
/-
  A FUNCTIONAL LOGIC, 17 (printed by mkpv.py out of the laws ok_..): what an operation gives that only reads.
-/
namespace Go.FL
open Go Go.RowKit

def PV (P : Program) (C : Cx) (o : Oper) (env : Env) (H : Heap) (av : AV) : Prop :=
  (∀ c, o.op ≠ .defer c) ∧ ∀ X a w I μ O, X.n0 = C.n0 → Sim P X env H a w I μ O → ∃ v, (execOp a.eval o).run P w = .ok (.value v) w ∧ Hand P w I μ O av v

section
variable {P : Program} {C : Cx} {X : Snap} {o : Oper} {env env' : Env} {H H' : Heap} {a : Act} {w w' : World} {I I' : Nat → Prop} {μ μ' : List Nat} {O O' : Nat → Option Loc} {t : Nat}

theorem pv_mv_copy {x : Operand} {ax : AO} (ho : o.op = .move x ∨ o.op = .assign x) (hx : fitsO x ax = true) (hr : isRef (look env ax) = false) (hn : noOwn (look env ax) = true) : PV P C o env H ((look env ax)) :=
  ⟨(by rcases ho with ho | ho <;> simp [ho]), (fun X a w I μ O _ hs => ⟨_, by rcases ho with ho | ho <;> simp [execOp, ho], hs.look_copy hx hr hn⟩)⟩
theorem pv_pick {c x y : Operand} {ac ax : AO} {b : Bool} (ho : o.op = .pick c x y) (hc : fitsO c ac = true) (hcv : look env ac = .d (.b b)) (hx : fitsO (if b then x else y) ax = true) (hr : isRef (look env ax) = false) (hn : noOwn (look env ax) = true) : PV P C o env H ((look env ax)) :=
  ⟨(by simp [ho]), (fun X a w I μ O _ hs => ⟨a.eval (if b then x else y), by
    have := hs.look_b hc hcv
    cases b <;> simp [execOp, ho, this, asBool], hs.look_copy hx hr hn⟩)⟩
theorem pv_ibin {op : BinOp} {xt yt : TypeId} {x y : Operand} {ax ay : AO} {k k' : IntKind} {m n : Int} {c : Prop} {d : DV} (ho : o.op = .binOp op xt x y yt) (hx : fitsO x ax = true) (hy : fitsO y ay = true) (hxv : look env ax = .d (.i k m)) (hyv : look env ay = .d (.i k' n)) (hk : k' = k ∨ isShift op = true) (hb : ibin op k m n = some (c, d)) (hc : c) : PV P C o env H ((.d d)) :=
  ⟨(by simp [ho]), (fun X a w I μ O _ hs => by
    obtain ⟨v, h1, h2⟩ := ibin_run (P := P) hb hk hc xt w
    refine ⟨v, ?_, .of_rep (h2 I)⟩
    simp [execOp, ho, hs.look_i hx hxv, hs.look_i hy hyv, eqGuard_at_int, h1])⟩
theorem pv_not {x : Operand} {ax : AO} {xt : TypeId} {b : Bool} (ho : o.op = .unOp .not xt x) (hx : fitsO x ax = true) (hxv : look env ax = .d (.b b)) : PV P C o env H ((.d (.b (!b)))) :=
  ⟨(by simp [ho]), (fun X a w I μ O _ hs => ⟨.bool (!b), by simp [execOp, ho, hs.look_b hx hxv, Op.unary], .of_rep (.b _)⟩)⟩
theorem pv_neg {x : Operand} {ax : AO} {xt : TypeId} {k : IntKind} {n : Int} (ho : o.op = .unOp .neg xt x) (hx : fitsO x ax = true) (hxv : look env ax = .d (.i k n)) : PV P C o env H ((.d (.i k (k.wrap (0 - n))))) :=
  ⟨(by simp [ho]), (fun X a w I μ O _ hs => ⟨.int k (k.wrap (0 - n)), by simp [execOp, ho, hs.look_i hx hxv, Op.unary, Op.intArith], .of_rep (.i _ _)⟩)⟩
theorem pv_xor {x : Operand} {ax : AO} {xt : TypeId} {k : IntKind} {n : Int} (ho : o.op = .unOp .xor xt x) (hx : fitsO x ax = true) (hxv : look env ax = .d (.i k n)) : PV P C o env H ((.d (.i k (bits .xor k (if k.signed then -1 else k.max) n)))) :=
  ⟨(by simp [ho]), (fun X a w I μ O _ hs => ⟨.int k (bits .xor k (if k.signed then -1 else k.max) n), by simp [execOp, ho, hs.look_i hx hxv, Op.unary, intBits_xor], .of_rep (.i _ _)⟩)⟩
theorem pv_bbin {op : BinOp} {xt yt : TypeId} {x y : Operand} {ax ay : AO} {b c : Bool} (ho : o.op = .binOp op xt x y yt) (hop : op = .eql ∨ op = .neq) (hu : P.underlying xt = some .bool) (hx : fitsO x ax = true) (hy : fitsO y ay = true) (hxv : look env ax = .d (.b b)) (hyv : look env ay = .d (.b c)) : PV P C o env H ((.d (.b (if op = .eql then b == c else b != c)))) :=
  ⟨(by simp [ho]), (fun X a w I μ O _ hs => by
    refine ⟨.bool (if op = .eql then b == c else b != c), ?_, .of_rep (.b _)⟩
    have he : (Op.equal xt (.bool b) (.bool c)).run P w = .ok (b == c) w := run_equal_bool w xt b c hu
    rcases hop with rfl | rfl
    · simp only [execOp, ho, hs.look_b hx hxv, hs.look_b hy hyv, eqGuard_at_bool, binOp, Sem.run_bind, Sem.run_pure, Result.andThen_ok, he]
      rfl
    · simp only [execOp, ho, hs.look_b hx hxv, hs.look_b hy hyv, eqGuard_at_bool, binOp, Sem.run_bind, Sem.run_pure, Result.andThen_ok, he]
      rfl)⟩
theorem pv_ld_box {x : Operand} {ax : AO} {ty : Nat} {id off : Nat} {cs : List AV} {c : AV} (ho : o.op = .load ty x) (hx : fitsO x ax = true) (hag : aggT P ty = some false) (hv : look env ax = .bp id off) (hH : H[id]? = some (.box cs)) (hc : cs[off]? = some c) (hn : noOwn c = true) : PV P C o env H (c) :=
  ⟨(by simp [ho]), (fun X a w I μ O _ hs => by
    obtain ⟨blk, hm, he⟩ := hs.bp hx hv
    obtain ⟨v, bk, h1, h2⟩ := hs.cell hH hc hm
    have := noOwn_bs h2 hn; subst this
    exact ⟨v, by simp [execOp, ho, Instr.loadAt, he, Instr.sureAddr, run_loadVar_one hag h1], [], h2, List.nodup_nil, by simp⟩)⟩
theorem pv_ld_ep {x : Operand} {s ty : Nat} {p : Pl} {i k : Nat} {e : TypeId} {xs : List DV} (ho : o.op = .load ty x) (hx : fitsO x (.t s) = true) (hag : aggT P ty = some false) (hv : get env s = .ep p i k) (hp : plAV env H p = .own e xs) : PV P C o env H ((.d ((xs.getD i default).cells.getD k default))) :=
  ⟨(by simp [ho]), (fun X a w I μ O _ hs => by
    obtain ⟨b, vs, he, h3, h4, h5, h6, h7, h8⟩ := hs.ep_cells hp (hs.epr hx hv)
    have hkl : k < (xs.getD i default).cells.length := by omega
    have hck : (xs.getD i default).cells[k]? = some ((xs.getD i default).cells.getD k default) := by
      generalize (xs.getD i default).cells = l at hkl
      rw [List.getD_eq_getElem?_getD, List.getElem?_eq_getElem hkl]; rfl
    obtain ⟨v, g1, g2⟩ := h8.get k _ hck
    have hc : w.cell? ⟨b, i * szOf P e + k, none⟩ = some v := by
      have := h5 0 v (by rw [List.getElem?_drop]; simpa using g1)
      simpa using this
    exact ⟨v, by simp [execOp, ho, Instr.loadAt, he, Instr.sureAddr, run_loadVar_one hag hc], .of_rep g2⟩)⟩
theorem pv_ld_ptr {x : Operand} {ax : AO} {ty : Nat} {cs : List DV} (ho : o.op = .load ty x) (hx : fitsO x ax = true) (hag : aggT P ty = some false) (hv : look env ax = .d (.ptr cs)) (hc : 0 < cs.length) : PV P C o env H ((.d (cs.getD 0 default))) :=
  ⟨(by simp [ho]), (fun X a w I μ O _ hs => by
    obtain ⟨b, off, vs, he, _, h2, h3⟩ := hs.dp hx hv
    obtain ⟨v, g1, g2⟩ := h3.get 0 (cs.getD 0 default) (by rw [List.getD_eq_getElem?_getD, List.getElem?_eq_getElem hc]; rfl)
    have hcell : w.cell? ⟨b, off, none⟩ = some v := by simpa using h2 0 v g1
    exact ⟨v, by simp [execOp, ho, Instr.loadAt, he, Instr.sureAddr, run_loadVar_one hag hcell], .of_rep g2⟩)⟩
theorem pv_lda_ptr {x : Operand} {ax : AO} {ty n : Nat} {cs : List DV} (ho : o.op = .load ty x) (hx : fitsO x ax = true) (hag : aggT P ty = some true) (hn : szOf P ty = n) (hn0 : 0 < n) (hv : look env ax = .d (.ptr cs)) (hc : n ≤ cs.length) : PV P C o env H ((.d (.ag (cs.take n)))) :=
  ⟨(by simp [ho]), (fun X a w I μ O _ hs => by
    obtain ⟨b, off, vs, he, _, h2, h3⟩ := hs.dp hx hv
    have hl : (vs.take n).length = n := by rw [List.length_take, ← h3.length]; omega
    exact ⟨_, by simp only [execOp, ho, Instr.loadAt, he, Instr.sureAddr, Sem.run_bind, Sem.run_pure, Result.andThen_ok, run_loadVar_agg hag hn hn0 (h2.take n) hl], .of_rep (.ag _ _ (h3.take n))⟩)⟩
theorem pv_lda_ep {x : Operand} {s ty n : Nat} {p : Pl} {i k : Nat} {e : TypeId} {xs : List DV} (ho : o.op = .load ty x) (hx : fitsO x (.t s) = true) (hag : aggT P ty = some true) (hn : szOf P ty = n) (hn0 : 0 < n) (hv : get env s = .ep p i k) (hp : plAV env H p = .own e xs) (hc : k + n ≤ (xs.getD i default).cells.length) : PV P C o env H ((.d (.ag (((xs.getD i default).cells.drop k).take n)))) :=
  ⟨(by simp [ho]), (fun X a w I μ O _ hs => by
    obtain ⟨b, vs, he, h3, h4, h5, h6, h7, h8⟩ := hs.ep_cells hp (hs.epr hx hv)
    have hl : ((vs.drop k).take n).length = n := by rw [List.length_take, List.length_drop]; omega
    exact ⟨_, by simp only [execOp, ho, Instr.loadAt, he, Instr.sureAddr, Sem.run_bind, Sem.run_pure, Result.andThen_ok, run_loadVar_agg hag hn hn0 (h5.take n) hl], .of_rep (.ag _ _ ((h8.drop k).take n))⟩)⟩
theorem pv_nc {x : Operand} {ax : AO} (ho : o.op = .nilCheck x) (hx : fitsO x ax = true) (hv : (∃ id off, look env ax = .bp id off) ∨ (∃ cs, look env ax = .d (.ptr cs))) : PV P C o env H ((look env ax)) :=
  ⟨(by simp [ho]), (fun X a w I μ O _ hs => by
    rcases hv with ⟨id, off, hv⟩ | ⟨cs, hv⟩
    · obtain ⟨blk, hm, he⟩ := hs.bp hx hv
      exact ⟨.pointer (some ⟨blk, off, none⟩), by simp [execOp, ho, he], by rw [hv]; exact ⟨[], .bp _ _ _ hm, List.nodup_nil, by simp⟩⟩
    · obtain ⟨b, off, vs, he, h1, h2, h3⟩ := hs.dp hx hv
      exact ⟨.pointer (some ⟨b, off, none⟩), by simp [execOp, ho, he], by rw [hv]; exact .of_rep (.ptr _ _ _ _ h1 h2 h3)⟩)⟩
theorem pv_fad_bp {x : Operand} {ax : AO} {s f off n : Nat} {id p : Nat} (ho : o.op = .fieldAddr s x f) (hx : fitsO x ax = true) (hf : fieldT P s f = some (off, n)) (hn : 0 < n) (hv : look env ax = .bp id p) : PV P C o env H ((.bp id (p + off))) :=
  ⟨(by simp [ho]), (fun X a w I μ O _ hs => by
    obtain ⟨blk, hm, he⟩ := hs.bp hx hv
    exact ⟨.pointer (some ⟨blk, p + off, none⟩), by simp [execOp, ho, he, run_fieldAt hf hn], [], .bp _ _ _ hm, List.nodup_nil, by simp⟩)⟩
theorem pv_fad_ptr {x : Operand} {ax : AO} {s f off n : Nat} {cs : List DV} (ho : o.op = .fieldAddr s x f) (hx : fitsO x ax = true) (hf : fieldT P s f = some (off, n)) (hn : 0 < n) (hv : look env ax = .d (.ptr cs)) : PV P C o env H ((.d (.ptr (cs.drop off)))) :=
  ⟨(by simp [ho]), (fun X a w I μ O _ hs => by
    obtain ⟨b, p, vs, he, h1, h2, h3⟩ := hs.dp hx hv
    exact ⟨.pointer (some ⟨b, p + off, none⟩), by simp [execOp, ho, he, run_fieldAt hf hn], .of_rep (.ptr _ _ _ _ h1 (h2.drop off) (h3.drop off))⟩)⟩
theorem pv_iad_d {x i : Operand} {ax ai : AO} {ty e sz by_ : Nat} {xs : List DV} {k : IntKind} {n : Int} (ho : o.op = .indexAddr ty x i) (hx : fitsO x ax = true) (hi : fitsO i ai = true) (hty : sliceT P ty = some (e, sz, by_)) (hv : look env ax = .d (.sl xs)) (hiv : look env ai = .d (.i k n)) (h0 : 0 ≤ n) (hl : n < xs.length) (hsz : (xs.getD n.toNat default).cells.length = sz) : PV P C o env H ((.d (.ptr (xs.getD n.toNat default).cells))) :=
  ⟨(by simp [ho]), (fun X a w I μ O _ hs => by
    obtain ⟨inf, s1, s2, s3, _, s5⟩ := sliceT_spec hty
    have hr := hs.look_d hx hv
    have hni := hs.look_i hi hiv
    generalize hev : a.eval x = u at hr
    cases hr with
    | sl0 => simp at hl; omega
    | sl _ bk off sz' c vs hne hc hI hsz' hh hrow =>
      have hlt : n.toNat < xs.length := by omega
      have hg : xs[n.toNat]? = some (xs.getD n.toNat default) := by
        rw [List.getD_eq_getElem?_getD, List.getElem?_eq_getElem hlt]; rfl
      obtain ⟨q1, q2⟩ := hrow.get _ _ hg
      have hszz : sz' = sz := by rw [← q1, hsz]
      subst hszz
      refine ⟨.pointer (some ⟨bk, off + n.toNat * sz', none⟩), ?_, .of_rep (.ptr _ _ _ _ hI ((hh.drop (n.toNat * sz')).take sz') q2)⟩
      have hc1 : 0 ≤ n ∧ n < (xs.length : Int) := ⟨h0, hl⟩
      simp [execOp, ho, hev, hni, Instr.indexAt, asIntOf, run_underlying s1, hc1, run_sizeOf s2, s3, addr_add])⟩
theorem pv_idx {x i : Operand} {ax ai : AO} {ty : Nat} {s : ByteArray} {k : IntKind} {n : Int} (ho : o.op = .index ty x i) (hx : fitsO x ax = true) (hi : fitsO i ai = true) (hty : P.underlying ty = some .string) (hv : look env ax = .d (.s s)) (hiv : look env ai = .d (.i k n)) (h0 : 0 ≤ n) (hl : n < s.size) : PV P C o env H ((.d (.i .u8 ((s.data.toList.getD n.toNat 0).toNat)))) :=
  ⟨(by simp [ho]), (fun X a w I μ O _ hs => by
    have hs1 := hs.look_s hx hv
    have hni := hs.look_i hi hiv
    have hlt : n.toNat < s.size := by omega
    refine ⟨.int .u8 ((s.data.toList.getD n.toNat 0).toNat), ?_, .of_rep (.i _ _)⟩
    have hg : s[n.toNat]? = some (s.data.toList.getD n.toNat 0) := by
      rw [getElem?_pos s n.toNat hlt]
      have : n.toNat < s.data.toList.length := by simpa using hlt
      rw [List.getD_eq_getElem?_getD, List.getElem?_eq_getElem this]; rfl
    simp [execOp, ho, hs1, hni, Instr.index, asIntOf, run_underlying hty, h0, hg])⟩
theorem pv_slc_d {x : Operand} {ax : AO} {ty e sz by_ : Nat} {lo hi mx : Option Operand} {al ah am : Option AO} {xs : List DV} {l h m : Int} (ho : o.op = .slice ty x lo hi mx) (hx : fitsO x ax = true) (hfl : fitsOo lo al = true) (hfh : fitsOo hi ah = true) (hfm : fitsOo mx am = true) (hty : sliceT P ty = some (e, sz, by_)) (hv : look env ax = .d (.sl xs)) (hl : lookB env 0 al = some l) (hh : lookB env xs.length ah = some h) (hm : lookB env h am = some m) (hmh : am = none ∨ ah ≠ none) (h0 : 0 ≤ l) (h1 : l ≤ h) (h2 : h ≤ m) (h3 : m ≤ xs.length) (hsz : ∀ x ∈ xs, x.cells.length = sz) : PV P C o env H ((.d (.sl ((xs.drop l.toNat).take (h.toNat - l.toNat))))) :=
  ⟨(by simp [ho]), (fun X a w I μ O _ hs => by
    obtain ⟨inf, s1, s2, s3, _, s5⟩ := sliceT_spec hty
    have hr := hs.look_d hx hv
    obtain ⟨A, c, hev, hc⟩ := hr.sl_len
    rw [hev] at hr
    have b1 := hs.bound hfl hl
    have b2 := hs.bound hfh hh
    have b3 := hs.bound hfm hm
    have hmx : mx = none ↔ am = none := by cases mx <;> cases am <;> simp [fitsOo] at hfm ⊢
    have hhi : hi = none ↔ ah = none := by cases hi <;> cases ah <;> simp [fitsOo] at hfh ⊢
    have hb : ∃ m' : Nat, (Instr.sliceBounds true xs.length c (lo.map a.eval) (hi.map a.eval) (mx.map a.eval)).run P w = .ok (l.toNat, h.toNat, m') w ∧ h.toNat ≤ m' := by
      have hh' : (hi.map a.eval = none ∧ h = (xs.length : Int) ∧ mx.map a.eval = none) ∨ ∃ k, hi.map a.eval = some (.int k h) := by
        rcases b2 with ⟨g1, g2⟩ | g
        · refine .inl ⟨g1, g2, ?_⟩
          rcases hmh with g | g
          · rw [hmx.2 g]; rfl
          · have : hi = none := by cases hi <;> simp at g1 ⊢
            exact absurd (hhi.1 this) g
        · exact .inr g
      by_cases hmn : mx = none
      · have e1 : h ≤ (c : Int) := by omega
        exact ⟨c, by simpa using run_bounds (P := P) (w := w) (isS := true) h0 h1 b1 hh' (m := c) (.inl ⟨by rw [hmn]; rfl, rfl⟩) e1 (Int.le_refl _), by omega⟩
      · rcases b3 with ⟨g1, _⟩ | g
        · exact absurd (by cases mx <;> simp at g1 ⊢) hmn
        · exact ⟨m.toNat, run_bounds (P := P) (w := w) (isS := true) h0 h1 b1 hh' (.inr g) h2 (by omega), by omega⟩
    obtain ⟨m', hb1, hb2⟩ := hb
    refine ⟨.slice (if m' = l.toNat then A else A.map (·.add (l.toNat * sz))) (h.toNat - l.toNat) (m' - l.toNat), by simp only [execOp, ho, hev, Sem.run_bind, run_slc s1 s2 hb1, Result.andThen_ok, Sem.run_pure, s3], .of_rep ?_⟩
    exact hr.cut hsz (by omega) (by omega) hb2)⟩
theorem pv_len {c : Call} {x : Operand} {ty : Nat} {xs : List DV} (ho : o.op = .call c) (hc : c.callee = .builtin .len) (hx : c.args = #[x]) (hty : c.argTypes = #[ty]) (hu : P.underlying ty = some (.slice (P.elem ty))) (hv : rd env H (lk env x) = some xs) (hsz : ∃ sz, ∀ x ∈ xs, x.cells.length = sz) : PV P C o env H ((.d (.i .i64 xs.length))) :=
  ⟨(by simp [ho]), (fun X a w I μ O _ hs => by
    obtain ⟨sz, hsz⟩ := hsz
    obtain ⟨news, ⟨_, A, cc, h2, _⟩, _⟩ := hs.rd hv hsz
    exact ⟨.int .i64 xs.length, by simp [execOp, ho, resolve, hc, hx, hty, invoke, builtin, h2, run_len_slice w ty o.type A xs.length cc hu, goInt], .of_rep (.i _ _)⟩)⟩
theorem pv_len_s {c : Call} {x : Operand} {ty : Nat} {s : ByteArray} (ho : o.op = .call c) (hc : c.callee = .builtin .len) (hx : c.args = #[x]) (hty : c.argTypes = #[ty]) (hu : P.underlying ty = some .string) (hv : lk env x = .d (.s s)) : PV P C o env H ((.d (.i .i64 s.size))) :=
  ⟨(by simp [ho]), (fun X a w I μ O _ hs => by
    have hr := hs.deep (x := x) (v := .s s) (by rw [hv]; rfl)
    generalize hev : a.eval x = u at hr
    cases hr
    exact ⟨.int .i64 s.size, by simp [execOp, ho, resolve, hc, hx, hty, invoke, builtin, hev, run_len_string w ty o.type s hu, goInt], .of_rep (.i _ _)⟩)⟩
theorem pv_cvt {x : Operand} {src dst : Nat} {k k' : IntKind} {n : Int} (ho : o.op = .convert src dst x) (hs' : ∃ q, P.underlying src = some (.int q)) (hd' : P.underlying dst = some (.int k')) (hv : lk env x = .d (.i k n)) : PV P C o env H ((.d (.i k' (k'.wrap n)))) :=
  ⟨(by simp [ho]), (fun X a w I μ O _ hs => by
    have hr := hs.deep (x := x) (v := .i k n) (by rw [hv]; rfl)
    generalize hev : a.eval x = u at hr
    cases hr
    obtain ⟨q, hq⟩ := hs'
    exact ⟨.int k' (k'.wrap n), by simp [execOp, ho, hev, convert, run_underlying hq, run_underlying hd', Conv.intToInt], .of_rep (.i _ _)⟩)⟩
theorem pv_slc_none {x : Operand} {ty e sz by_ : Nat} {z : Value} {lo hi mx : Option Operand} {al ah am : Option AO} {xs : List DV} {l : Int} (ho : o.op = .slice ty x lo hi mx) (hfl : fitsOo lo al = true) (hfh : fitsOo hi ah = true) (hfm : fitsOo mx am = true) (hah : ah ≠ none) (ham : am ≠ none) (hT : elemT P ty = some (e, sz, by_, z)) (hv : rd env H (lk env x) = some xs) (hsz : ∀ x ∈ xs, x.cells.length = sz) (hl : lookB env 0 al = some l) (hh : lookB env 0 ah = some l) (hm : lookB env 0 am = some l) (h0 : 0 ≤ l) (h1 : l ≤ xs.length) : PV P C o env H ((.own e [])) :=
  ⟨(by simp [ho]), (fun X a w I μ O _ hs => by
    obtain ⟨i, i1, i2, i3, i4, i5, i6, i7, i8⟩ := elemT_spec hT
    obtain ⟨news, ⟨_, A, cc, hev, hcc, _⟩, _⟩ := hs.rd hv hsz
    have b1 := hs.bound hfl hl
    have b2 := hs.bound hfh hh
    have b3 := hs.bound hfm hm
    have hn : ∀ {x : Option Operand} {ax : Option AO}, fitsOo x ax = true → ax ≠ none → x.map a.eval ≠ none := fun {x ax} h1 h2 h3 => by
      cases x <;> cases ax <;> simp [fitsOo] at h1 h3 h2
    have hb := run_bounds (P := P) (w := w) (isS := true) (len := xs.length) (cap := cc) h0 (Int.le_refl l) b1
      (.inr (b2.resolve_left fun h => hn hfh hah h.1)) (m := l) (.inr (b3.resolve_left fun h => hn hfm ham h.1)) (Int.le_refl l) (by omega)
    refine ⟨.slice A 0 0, ?_, [], ?_, List.nodup_nil, by simp⟩
    · simp only [execOp, ho, hev, Sem.run_bind, run_slc i1 i2 hb, Result.andThen_ok, Sem.run_pure, if_true, Nat.sub_self]
    · have : [] = ownBs (Value.slice A 0 0) := by cases A <;> simp [ownBs]
      rw [this]
      exact .own e [] (.slice A 0 0) [] (by omega) (.inl ⟨A, rfl, rfl, rfl⟩) (.nil _))⟩
theorem pv_min {c : Call} {x y : Operand} {k k' : IntKind} {m n : Int} (ho : o.op = .call c) (hc : c.callee = .builtin .min) (hx : c.args = #[x, y]) (hxv : lk env x = .d (.i k m)) (hyv : lk env y = .d (.i k' n)) : PV P C o env H ((.d (.i k (if n < m then n else m)))) :=
  ⟨(by simp [ho]), (fun X a w I μ O _ hs => by
    have e1 : a.eval x = .int k m := by
      have hr := hs.deep (x := x) (v := .i k m) (by rw [hxv]; rfl)
      generalize a.eval x = u at hr
      cases hr; rfl
    have e2 : a.eval y = .int k' n := by
      have hr := hs.deep (x := y) (v := .i k' n) (by rw [hyv]; rfl)
      generalize a.eval y = u at hr
      cases hr; rfl
    refine ⟨.int k (if n < m then n else m), ?_, .of_rep (.i _ _)⟩
    simp [execOp, ho, resolve, hc, hx, invoke, builtin, e1, e2, Builtin.min_, Builtin.min2])⟩
theorem pv_max {c : Call} {x y : Operand} {k k' : IntKind} {m n : Int} (ho : o.op = .call c) (hc : c.callee = .builtin .max) (hx : c.args = #[x, y]) (hxv : lk env x = .d (.i k m)) (hyv : lk env y = .d (.i k' n)) : PV P C o env H ((.d (.i k (if m < n then n else m)))) :=
  ⟨(by simp [ho]), (fun X a w I μ O _ hs => by
    have e1 : a.eval x = .int k m := by
      have hr := hs.deep (x := x) (v := .i k m) (by rw [hxv]; rfl)
      generalize a.eval x = u at hr
      cases hr; rfl
    have e2 : a.eval y = .int k' n := by
      have hr := hs.deep (x := y) (v := .i k' n) (by rw [hyv]; rfl)
      generalize a.eval y = u at hr
      cases hr; rfl
    refine ⟨.int k (if m < n then n else m), ?_, .of_rep (.i _ _)⟩
    simp [execOp, ho, resolve, hc, hx, invoke, builtin, e1, e2, Builtin.max_, Builtin.max2, gt_iff_lt])⟩
end
end Go.FL
/-
  A FUNCTIONAL LOGIC, 18: regions whose order of evaluation is drawn: operations that only read and make what is new, and behind them others in order.
-/
namespace Go.FL
open Go Go.RowKit

def VRep (P : Program) (env : Env) (H : Heap) (a : Act) (w : World) (I : Nat → Prop) (μ : List Nat) : AV → Value → List Nat → Prop
  | .ref p off len, v, bs => bs = [] ∧ RefRel P env H a w μ p off len v
  | .ep p i k, v, bs => bs = [] ∧ EpRel P env H a w μ p i k v
  | av, v, bs => ARep P w I μ av v bs
/-- An operation that changes nothing gives this. -/
def VOK (P : Program) (C : Cx) (o : Oper) (env : Env) (H : Heap) (av : AV) : Prop :=
  ∀ X a w I μ O (next : Act → World → Prop) Q, X.nt = C.nt → X.n0 = C.n0 → X.ne = C.ne → Sim P X env H a w I μ O →
    (∀ v w' I' bs, Below w.heap.size w w' → (∀ b, I b → I' b) → (∀ b, I' b → b < w'.heap.size ∧ (b < w.heap.size → I b)) → VRep P env H a w' I' μ av v bs → bs.Nodup →
      (∀ b ∈ bs, w.heap.size ≤ b ∧ b < w'.heap.size ∧ ¬ I' b) → next (a.put o.dst v) w') → o.wpIn (om C.ro) 0 P a w next Q

section
variable {P : Program} {C : Cx} {X : Snap} {o : Oper} {ops : Array Oper} {Q : Exit → Env → Heap → Prop} {env env' envi : Env} {H H' : Heap} {a : Act} {w w' : World} {I I' : Nat → Prop} {μ μ' : List Nat} {O O' : Nat → Option Loc}
  {K : Env → Heap → Prop} {k : Nat} {l : List Oper} {av : AV}

theorem Sim.noR (hs : Sim P X env H a w I μ O) : Sim P X env H a w I μ (fun b => match O b with | some .r => none | x => x) := by
  have hO : ∀ b l, O b = some l → l ≠ .r → (match O b with | some .r => none | x => x) = some l := fun b l h hl => by
    rw [h]; cases l <;> first | rfl | exact absurd rfl hl
  refine ⟨{ hs.toMem with
    kO := fun b hk => by rw [hs.kO b hk]
    own := fun b l hl => by
      cases hx : O b with
      | none => rw [hx] at hl; cases hl
      | some l' => exact hs.own b l' hx
    heap := fun id o' ho' => by
      obtain ⟨blk, ds, j1, j2, j3, j4⟩ := hs.heap id o' ho'
      exact ⟨blk, ds, j1, j2, fun hn => ⟨(j3 hn).1, fun b hb => hO b _ ((j3 hn).2 b hb) (by simp)⟩, j4⟩ }, fun t => ?_, hs.nt, hs.dfs⟩
  exact (hs.envr t).keepG (fun _ h => h) (fun _ _ => rfl) (fun _ _ h => h) (fun b hb => ⟨rfl, hO b _ hb (by simp)⟩) fun p e xs hp => ⟨hp, fun v hv => hv⟩
theorem vrep_of {v : Value} {bs : List Nat} (h : ARep P w I μ av v bs) (hr : isRef av = false) : VRep P env H a w I μ av v bs := by
  cases av <;> first | exact h | simp [isRef] at hr
theorem VOK.pv (h : PV P C o env H av) (hr : isRef av = false := by rfl) : VOK P C o env H av := fun X a w I μ O next Q h1 h2 h3 hs hn => by
  obtain ⟨v, hrun, bs, k1, k2, k3⟩ := h.2 X a w I μ _ h2 hs.noR
  have hb : bs = [] := by
    cases bs with
    | nil => rfl
    | cons b bs =>
      have := k3 b (by simp)
      simp only at this
      split at this
      · cases this
      · rename_i hx; exact absurd this hx
  subst hb
  refine ⟨fun _ _ => trivial, ?_⟩
  rw [Oper.semAt_eq _ _ _ h.1, hrun, Oper.uponIn_value]
  exact hn v w I [] (Below.refl _ _) (fun _ h => h) (fun b hi => ⟨hs.ilt b hi, fun _ => hi⟩) (vrep_of k1 hr) List.nodup_nil (by simp)
theorem VOK.rel (hdef : ∀ c, o.op ≠ .defer c) (h : ∀ X a w I μ O, X.n0 = C.n0 → Sim P X env H a w I μ O → ∃ v, (execOp a.eval o).run P w = .ok (.value v) w ∧ VRep P env H a w I μ av v []) : VOK P C o env H av :=
  fun X a w I μ O next Q h1 h2 h3 hs hn => by
    obtain ⟨v, hrun, k1⟩ := h X a w I μ O h2 hs
    refine ⟨fun _ _ => trivial, ?_⟩
    rw [Oper.semAt_eq _ _ _ hdef, hrun, Oper.uponIn_value]
    exact hn v w I [] (Below.refl _ _) (fun _ h => h) (fun b hi => ⟨hs.ilt b hi, fun _ => hi⟩) k1 List.nodup_nil (by simp)

/-- Less is known. -/
theorem Sim.less (hs : Sim P X env H a w I μ O) (h1 : ∀ s, get envi s = .un ∨ get envi s = get env s) (h2 : ∀ s q off len, get envi s = .ref (.t q) off len → get envi q = get env q) (h3 : ∀ s q i k, get envi s = .ep (.t q) i k → get envi q = get env q) :
    Sim P X envi H a w I μ O := by
  refine ⟨hs.toMem, fun t => ?_, hs.nt, hs.dfs⟩
  rcases h1 t with h | h
  · rw [h]; exact .un
  · have ht := hs.envr t
    rw [← h] at ht
    cases hg : get envi t with
    | ref p off len =>
      rw [hg] at ht
      obtain ⟨e, xs, A, n, c, k1, k2⟩ := ht
      refine ⟨e, xs, A, n, c, ?_, k2⟩
      cases p with
      | t q => exact (h2 t q off len hg).trans k1
      | c id o => exact k1
    | ep p i k =>
      rw [hg] at ht
      obtain ⟨e, xs, b, n, c, k1, k2⟩ := ht
      refine ⟨e, xs, b, n, c, ?_, k2⟩
      cases p with
      | t q => exact (h3 t q i k hg).trans k1
      | c id o => exact k1
    | _ => rw [hg] at ht; obtain ⟨bs, q1, q2, q3⟩ := ht.plain rfl; exact .of q1 q2 q3
theorem VOK.step {t : Nat} (hv : VOK P C o envi H av) (hd : o.dst = some t) (ht : okT C.nt t) (h1 : ∀ s, get envi s = .un ∨ get envi s = get env s) (h2 : ∀ s q off len, get envi s = .ref (.t q) off len → get envi q = get env q)
    (h3 : ∀ s q i k, get envi s = .ep (.t q) i k → get envi q = get env q) (hf : isOwn (get env t) = false) (hp : ∀ p, (∃ off len, av = .ref p off len) ∨ (∃ i k, av = .ep p i k) → p ≠ .t t)
    (n1 : X.nt = C.nt) (n2 : X.n0 = C.n0) (n3 : X.ne = C.ne) (hs : Sim P X env H a w I μ O) {next : Act → World → Prop} {Q : Exit → Act → World → Prop}
    (hn : ∀ a' w' I' O', Sim P X ((t, av) :: env) H a' w' I' μ O' → next a' w') : o.wpIn (om C.ro) 0 P a w next Q := by
  refine hv X a w I μ O next Q n1 n2 n3 (hs.less h1 h2 h3) fun v w' I' bs k1 k2 k3 k4 k5 k6 => ?_
  have hpl : ∀ p e xs, plAV envi H p = .own e xs → plAV env H p = .own e xs := fun p e xs hx => by
    cases p with
    | t q =>
      rcases h1 q with h | h
      · rw [show plAV envi H (.t q) = get envi q from rfl, h] at hx; cases hx
      · exact h.symm.trans hx
    | c id o => exact hx
  have hs' := hs.called k1 k2 k3
  rw [hd]
  rw [← put_cons hf] at hn
  have ht' : okT X.nt t := by rw [n1]; exact ht
  have gen : ARep P w' I' μ av v bs → next (a.put (some t) v) w' := fun hr => by
    have h := hs'.newR bs fun b hm => by
      obtain ⟨m1, m2, m3⟩ := k6 b hm
      refine ⟨m2, .inl ?_, m3, fun hk => by have := hs.klt b hk; have := hs.size; omega⟩
      cases hO : O b with
      | none => rfl
      | some l => have := (hs.own b l hO).1; omega
    exact hn _ _ _ _ (h.put_hand ht' ⟨bs, hr, k5, fun b hm => by simp [hm]⟩)
  cases av with
  | ref p off len =>
    obtain ⟨e, xs, A, n, c, q1, q2⟩ := k4.2
    exact hn _ _ _ _ (hs'.put_ref ht' (hp p (.inl ⟨off, len, rfl⟩)) ⟨e, xs, A, n, c, hpl _ _ _ q1, q2⟩)
  | ep p i k =>
    obtain ⟨e, xs, b, n, c, q1, q2⟩ := k4.2
    exact hn _ _ _ _ (hs'.put_ep ht' (hp p (.inr ⟨i, k, rfl⟩)) ⟨e, xs, b, n, c, hpl _ _ _ q1, q2⟩)
  | _ => exact gen k4

/-! ### the order is drawn -/
/-- Those temporaries of a list of values that an operation looks at. -/
def pickE (rs : List Nat) (vals : Env) : Env := vals.filter fun x => rs.contains x.1
/-- Whoever looks at a slice of the call's own knows it. -/
def refsKnown (env : Env) : Bool := env.all fun x => match x.2 with
  | .ref (.t q) _ _ => isOwn (get env q)
  | .ep (.t q) _ _ => isOwn (get env q)
  | _ => true
def notSelf (t : Nat) : AV → Bool
  | .ref (.t q) _ _ => q != t
  | .ep (.t q) _ _ => q != t
  | _ => true
def isUn : AV → Bool
  | .un => true
  | _ => false
/-- Operations that only read and make what is new, each with what it gives. -/
inductive DL (P : Program) (C : Cx) (ops : Array Oper) (H : Heap) (env0 : Env) : Env → List Oper → Env → Prop
  | nil (vals : Env) : DL P C ops H env0 vals [] vals
  | run {vals fin : Env} {o : Oper} {t : Nat} {v : AV} {l : List Oper} (hd : o.dst = some t) (ht : okT C.nt t) (h0 : isUn (get env0 t) = true) (hn : (vals.map (·.1)).contains t = false) (hs : notSelf t v = true)
      (hg : grd ops (pickE (o.looksAt ops) vals ++ env0) o true = true) (hv : VOK P C o (pickE (o.looksAt ops) vals ++ env0) H v) (hr : refsKnown (pickE (o.looksAt ops) vals ++ env0) = true) (h : DL P C ops H env0 ((t, v) :: vals) l fin) : DL P C ops H env0 vals (o :: l) fin
  | skip {vals fin : Env} {o : Oper} {t : Nat} {l : List Oper} (hd : o.dst = some t) (ht : okT C.nt t) (h0 : isUn (get env0 t) = true) (hn : (vals.map (·.1)).contains t = false)
      (hg : grd ops (pickE (o.looksAt ops) vals ++ env0) o false = true) (hr : refsKnown (pickE (o.looksAt ops) vals ++ env0) = true) (h : DL P C ops H env0 ((t, .un) :: vals) l fin) : DL P C ops H env0 vals (o :: l) fin

/-- What one of them is. -/
def DOne (P : Program) (C : Cx) (ops : Array Oper) (H : Heap) (env0 vals : Env) (o : Oper) (t : Nat) (v : AV) : Prop :=
  o.dst = some t ∧ okT C.nt t ∧ get env0 t = .un ∧ (∀ x ∈ vals, x.1 ≠ t) ∧ notSelf t v = true ∧ refsKnown (pickE (o.looksAt ops) vals ++ env0) = true ∧
  ((grd ops (pickE (o.looksAt ops) vals ++ env0) o true = true ∧ VOK P C o (pickE (o.looksAt ops) vals ++ env0) H v) ∨ (grd ops (pickE (o.looksAt ops) vals ++ env0) o false = true ∧ v = .un))
theorem isUn_eq {v : AV} (h : isUn v = true) : v = .un := by cases v <;> first | rfl | cases h
theorem DL.table {env0 vals fin : Env} (h : DL P C ops H env0 vals l fin) : ∃ tv : List (Nat × AV), tv.length = l.length ∧ fin = tv.reverse ++ vals ∧
    ∀ (i : Nat) o, l[i]? = some o → ∃ t v, tv[i]? = some (t, v) ∧ DOne P C ops H env0 ((tv.take i).reverse ++ vals) o t v := by
  induction h with
  | nil vals => exact ⟨[], rfl, rfl, fun i o h => by simp at h⟩
  | @run vals fin o t v l hd ht h0 hn hs hg hv hr h ih =>
    obtain ⟨tv, k1, k2, k3⟩ := ih
    refine ⟨(t, v) :: tv, by simp [k1], by rw [k2]; simp, fun i o' hi => ?_⟩
    cases i with
    | zero =>
      simp at hi; subst hi
      refine ⟨t, v, rfl, hd, ht, isUn_eq h0, fun x hx e => ?_, hs, hr, .inl ⟨hg, hv⟩⟩
      subst e
      have : (vals.map (·.1)).contains x.1 = true := List.contains_iff_mem.2 (List.mem_map_of_mem hx)
      rw [hn] at this; cases this
    | succ i =>
      obtain ⟨t', v', m1, m2⟩ := k3 i o' (by simpa using hi)
      refine ⟨t', v', by simpa using m1, ?_⟩
      simpa using m2
  | @skip vals fin o t l hd ht h0 hn hg hr h ih =>
    obtain ⟨tv, k1, k2, k3⟩ := ih
    refine ⟨(t, .un) :: tv, by simp [k1], by rw [k2]; simp, fun i o' hi => ?_⟩
    cases i with
    | zero =>
      simp at hi; subst hi
      refine ⟨t, .un, rfl, hd, ht, isUn_eq h0, fun x hx e => ?_, rfl, hr, .inr ⟨hg, rfl⟩⟩
      subst e
      have : (vals.map (·.1)).contains x.1 = true := List.contains_iff_mem.2 (List.mem_map_of_mem hx)
      rw [hn] at this; cases this
    | succ i =>
      obtain ⟨t', v', m1, m2⟩ := k3 i o' (by simpa using hi)
      exact ⟨t', v', by simpa using m1, by simpa using m2⟩

/-! what the order binds -/
def direct (ops : Array Oper) (s j : Nat) : Bool := match ops[s]? with
  | some o => o.after.any fun e => Region.binds .any e && e.on == j
  | none => false
def reach (ops : Array Oper) : Nat → Nat → Nat → Bool
  | 0, _, _ => false
  | f + 1, s, j => direct ops s j || match ops[s]? with
    | some o => o.after.any fun e => Region.binds .any e && reach ops f e.on j
    | none => false
/-- The first m operations are bound by what they look at; those behind wait for all that stand before. -/
def drawOK (ops : Array Oper) (m : Nat) : Bool :=
  ((List.range ops.size).all fun i => match ops[i]? with
    | some o => o.after.all (fun e => !Region.binds .any e || decide (e.on < i)) && (match o.op with | .select .. => false | _ => true) &&
      (if i < m then (List.range m).all fun j => match ops[j]? with
          | some oj => match oj.dst with
            | some t => !(o.looksAt ops).contains t || (decide (j < i) && direct ops i j)
            | none => false
          | none => false
        else (List.range i).all fun j => reach ops i i j)
    | none => false) && decide (m ≤ ops.size)

theorem direct_spec {s j : Nat} (h : direct ops s j = true) : ∃ o, ops[s]? = some o ∧ ∃ e ∈ o.after, Region.binds .any e = true ∧ e.on = j := by
  unfold direct at h
  split at h
  · rename_i o ho
    obtain ⟨i, hi, h2⟩ := Array.any_eq_true.1 h
    simp only [Bool.and_eq_true, beq_iff_eq] at h2
    exact ⟨o, ho, _, Array.getElem_mem hi, h2⟩
  · cases h
/-- A set of operations with all that they wait for. -/
def Down (ops : Array Oper) (L : Array Bool) : Prop := ∀ i o, L.getD i false = true → ops[i]? = some o → ∀ e ∈ o.after, Region.binds .any e = true → L.getD e.on false = true
theorem reach_down {L : Array Bool} (hL : Down ops L) : ∀ (f s j : Nat), reach ops f s j = true → (∀ o, ops[s]? = some o → ∀ e ∈ o.after, Region.binds .any e = true → L.getD e.on false = true) → L.getD j false = true := by
  intro f
  induction f with
  | zero => intro s j h; simp [reach] at h
  | succ f ih =>
    intro s j h hs
    simp only [reach, Bool.or_eq_true] at h
    rcases h with h | h
    · obtain ⟨o, ho, e, he, hb, rfl⟩ := direct_spec h
      exact hs o ho e he hb
    · split at h
      · rename_i o ho
        obtain ⟨i, hi, h2⟩ := Array.any_eq_true.1 h
        simp only [Bool.and_eq_true] at h2
        have he := Array.getElem_mem hi
        have hl := hs o ho _ he h2.1
        refine ih _ _ h2.2 fun o' ho' e' he' hb' => ?_
        exact hL _ o' hl ho' e' he' hb'
      · cases h

theorem countP_set (p p' : Nat → Bool) (i : Nat) (h0 : p i = true) (h1 : p' i = false) (h2 : ∀ j, j ≠ i → p' j = p j) : ∀ (l : List Nat), i ∈ l → l.Nodup → l.countP p' + 1 = l.countP p := by
  intro l
  induction l with
  | nil => intro h; simp at h
  | cons x l ih =>
    intro hm hn
    obtain ⟨hx, hn⟩ := List.nodup_cons.1 hn
    by_cases hxi : x = i
    · subst hxi
      have : l.countP p' = l.countP p := List.countP_congr fun j hj => by rw [h2 j fun e => hx (e ▸ hj)]
      rw [List.countP_cons, List.countP_cons, h0, h1, this]; simp
    · have hm' : i ∈ l := by
        rcases List.mem_cons.1 hm with h | h
        · exact absurd h.symm hxi
        · exact h
      rw [List.countP_cons, List.countP_cons, h2 x hxi, ← ih hm' hn]
      omega

theorem drawOK_le {m : Nat} (h : drawOK ops m = true) : m ≤ ops.size := by
  unfold drawOK at h; rw [Bool.and_eq_true] at h; simpa using h.2
theorem drawOK_at {m : Nat} (h : drawOK ops m = true) {i : Nat} {o : Oper} (ho : ops[i]? = some o) :
    (∀ e ∈ o.after, Region.binds .any e = true → e.on < i) ∧
    (i < m → ∀ j, j < m → ∃ oj t, ops[j]? = some oj ∧ oj.dst = some t ∧ (t ∈ o.looksAt ops → j < i ∧ direct ops i j = true)) ∧ (¬ i < m → ∀ j, j < i → reach ops i i j = true) := by
  unfold drawOK at h
  rw [Bool.and_eq_true] at h
  have hi : i < ops.size := (Array.getElem?_eq_some_iff.1 ho).1
  have := List.all_eq_true.1 h.1 i (List.mem_range.2 hi)
  rw [ho] at this
  simp only [Bool.and_eq_true] at this
  obtain ⟨⟨h1, _⟩, h3⟩ := this
  refine ⟨fun e he hb => ?_, fun him j hj => ?_, fun him j hj => ?_⟩
  · obtain ⟨k, hk, rfl⟩ := Array.mem_iff_getElem.1 he
    have := Array.all_eq_true.1 h1 k hk
    rw [hb] at this
    simpa using this
  · rw [if_pos him] at h3
    have := List.all_eq_true.1 h3 j (List.mem_range.2 hj)
    split at this
    · rename_i oj hoj
      split at this
      · rename_i t ht
        refine ⟨oj, t, hoj, ht, fun hm => ?_⟩
        have hc : (o.looksAt ops).contains t = true := List.contains_iff_mem.2 hm
        rw [hc] at this
        simpa using this
      · cases this
    · cases this
  · rw [if_neg him] at h3
    exact List.all_eq_true.1 h3 j (List.mem_range.2 hj)

theorem listed_set {L : Array Bool} {i j : Nat} (hi : i < L.size) : (L.setIfInBounds i true).getD j false = if i = j then true else L.getD j false := by
  simp only [Array.getD_eq_getD_getElem?, Array.getElem?_setIfInBounds]
  split
  · rename_i h; subst h; simp
  · rfl
theorem listed_def {L : Array Bool} {i : Nat} (h : i < L.size) : L.getD i true = L.getD i false := by simp [Array.getD_eq_getD_getElem?, h]

/-- Behind the operations that only read, one order is left. -/
theorem drawB {F : Fence} {n : Nat} {Q : Exit → Act → World → Prop} {m : Nat} (hpre : ∀ (i : Nat) o, ops[i]? = some o → ∀ e ∈ o.after, Region.binds .any e = true → e.on < i) (hrch : ∀ (i : Nat) o, ops[i]? = some o → m ≤ i → ∀ j, j < i → reach ops i i j = true) : ∀ (d s fuel : Nat) (L : Array Bool) (a : Act) (w : World), m ≤ s → s + d = ops.size → d ≤ fuel → L.size = ops.size →
    (∀ j, j < ops.size → (L.getD j false = true ↔ j < s)) → wpOpsIn F n P ops Q (List.range' s d) a w → wpAnyIn F n P .any ops Q fuel L a w := by
  intro d
  induction d with
  | zero =>
    intro s fuel L a w hms hsd hf hL hl h
    refine wpAnyIn_done ?_ h fuel
    apply List.eq_nil_iff_forall_not_mem.2
    intro j hj
    obtain ⟨h1, o, ho, _⟩ := mem_ready.1 hj
    have hlt := (Array.getElem?_eq_some_iff.1 ho).1
    rw [listed_def (by omega)] at h1
    rw [(hl j hlt).2 (by omega)] at h1; cases h1
  | succ d ih =>
    intro s fuel L a w hms hsd hf hL hl h
    obtain ⟨fuel, rfl⟩ : ∃ f, fuel = f + 1 := ⟨fuel - 1, by omega⟩
    have hs : s < ops.size := by omega
    have hos : ops[s]? = some ops[s] := Array.getElem?_eq_getElem hs
    have hdown : ∀ (i : Nat) o, ops[i]? = some o → ∀ e ∈ o.after, Region.binds .any e = true → i ≤ s → L.getD e.on false = true := fun i o ho e he hb his =>
      (hl e.on (by have := hpre i o ho e he hb; omega)).2 (by have := hpre i o ho e he hb; omega)
    have hready : s ∈ Region.ready .any ops L := mem_ready.2 ⟨by
      rw [listed_def (by omega)]
      cases hx : L.getD s false with
      | false => rfl
      | true => have := (hl s hs).1 hx; omega, _, hos, fun e he hb => hdown s _ hos e he hb (Nat.le_refl _)⟩
    refine ⟨fun h0 => (by rw [h0] at hready; cases hready), fun i hi => ?_⟩
    obtain ⟨h1, o, ho, h2⟩ := mem_ready.1 hi
    have hlt := (Array.getElem?_eq_some_iff.1 ho).1
    have hge : s ≤ i := by
      rcases Nat.lt_or_ge i s with hx | hx
      · rw [listed_def (by omega), (hl i hlt).2 hx] at h1; cases h1
      · exact hx
    have his : i = s := by
      rcases Nat.lt_or_ge s i with hx | hx
      · have hr := hrch i o ho (by omega) s hx
        have hD : Down ops L := fun i' o' hl' ho' e he hb => by
          have hi' : i' < s := (hl i' (Array.getElem?_eq_some_iff.1 ho').1).1 hl'
          exact hdown i' o' ho' e he hb (by omega)
        have := reach_down hD _ _ _ hr fun o' ho' e he hb => by rw [ho] at ho'; cases ho'; exact h2 e he hb
        have := (hl s hs).1 this; omega
      · omega
    subst his
    rw [List.range'_succ, wpOpsIn_cons] at h
    refine wpOpIn_mono (fun a w h => ih (i + 1) fuel _ a w (by omega) (by omega) (by omega) (by simpa using hL) (fun j hj => ?_) h) h
    rw [listed_set (by omega)]
    split
    · rename_i h; subst h; simp
    · rename_i h; rw [hl j hj]; omega

/-- What is known when these have been taken. -/
def envL (tv : List (Nat × AV)) (env0 : Env) (L : Array Bool) : Env := ((List.range tv.length).filterMap fun i => if L.getD i false = true then tv[i]? else none) ++ env0
theorem get_append (e e' : Env) (t : Nat) : get (e ++ e') t = if (e.map (·.1)).contains t then get e t else get e' t := by
  induction e with
  | nil => simp
  | cons x r ih =>
    obtain ⟨s, v⟩ := x
    simp only [List.cons_append, get, List.map_cons, List.contains_cons]
    by_cases h : s = t
    · subst h; simp
    · have : (t == s) = false := by simp [Ne.symm h]
      rw [if_neg h, ih, this, Bool.false_or]; simp [h]
theorem get_of_nodup {e : Env} (hn : (e.map (·.1)).Nodup) {t : Nat} {v : AV} (h : (t, v) ∈ e) : get e t = v := by
  induction e with
  | nil => simp at h
  | cons x r ih =>
    obtain ⟨s, u⟩ := x
    simp only [List.map_cons, List.nodup_cons] at hn
    simp only [get]
    rcases List.mem_cons.1 h with h | h
    · cases h; simp
    · rw [if_neg fun e => hn.1 (by rw [e]; exact List.mem_map_of_mem h)]
      exact ih hn.2 h
theorem get_not {e : Env} {t : Nat} (h : ∀ x ∈ e, x.1 ≠ t) : get e t = .un := by
  induction e with
  | nil => rfl
  | cons x r ih =>
    obtain ⟨s, u⟩ := x
    simp only [get]
    rw [if_neg (h (s, u) (by simp))]
    exact ih fun y hy => h y (by simp [hy])

theorem get_mem {e : Env} {t : Nat} {v : AV} (h : get e t = v) (hv : v ≠ .un) : (t, v) ∈ e := by
  induction e with
  | nil => exact absurd h.symm hv
  | cons x r ih =>
    obtain ⟨s, u⟩ := x
    simp only [get] at h
    split at h
    · rename_i hs; subst hs; subst h; simp
    · exact List.mem_cons_of_mem _ (ih h)
theorem get_unique {e : Env} {t : Nat} {v : AV} (h : (t, v) ∈ e) (hu : ∀ u, (t, u) ∈ e → u = v) : get e t = v := by
  induction e with
  | nil => simp at h
  | cons x r ih =>
    obtain ⟨s, u⟩ := x
    simp only [get]
    split
    · rename_i hs; subst hs; exact hu u (by simp)
    · rename_i hs
      rcases List.mem_cons.1 h with h | h
      · cases h; exact absurd rfl hs
      · exact ih h fun u' hu' => hu u' (by simp [hu'])
theorem getL_some {tv : List (Nat × AV)} {env0 : Env} {L : Array Bool} (hd : ∀ (i j t : Nat) v u, tv[i]? = some (t, v) → tv[j]? = some (t, u) → i = j) {i s : Nat} {v : AV} (hl : L.getD i false = true) (hi : tv[i]? = some (s, v)) :
    get (envL tv env0 L) s = v := by
  have hm : (s, v) ∈ (List.range tv.length).filterMap fun i => if L.getD i false = true then tv[i]? else none :=
    List.mem_filterMap.2 ⟨i, List.mem_range.2 (List.getElem?_eq_some_iff.1 hi).1, by rw [if_pos hl]; exact hi⟩
  have hu : ∀ u, (s, u) ∈ ((List.range tv.length).filterMap fun i => if L.getD i false = true then tv[i]? else none) → u = v := fun u hu => by
    obtain ⟨j, _, hj⟩ := List.mem_filterMap.1 hu
    split at hj
    · have := hd i j s v u hi hj
      subst this
      rw [hi] at hj; cases hj; rfl
    · cases hj
  unfold envL
  rw [get_append, if_pos (List.contains_iff_mem.2 (List.mem_map_of_mem (f := (·.1)) hm))]
  exact get_unique hm hu
theorem getL_none {tv : List (Nat × AV)} {env0 : Env} {L : Array Bool} {s : Nat} (h : ∀ (i : Nat) v, L.getD i false = true → tv[i]? ≠ some (s, v)) : get (envL tv env0 L) s = get env0 s := by
  unfold envL
  rw [get_append, if_neg]
  intro hc
  obtain ⟨x, hx, rfl⟩ := List.mem_map.1 (List.contains_iff_mem.1 hc)
  obtain ⟨j, _, hj⟩ := List.mem_filterMap.1 hx
  split at hj
  · rename_i hl; exact h j x.2 hl hj
  · cases hj
theorem grd_wanted (hs : Sim P X env H a w I μ O) {yes : Bool} (h : grd ops env o yes = true) : Region.wanted o (yielded ops a.tmps) = yes := by
  unfold grd at h
  unfold Region.wanted
  split at h
  · rename_i h1; rw [h1]; simpa using h.symm
  · rename_i j want h1
    rw [h1]
    split at h
    · cases h
    · rename_i oj h2
      split at h
      · cases h
      · rename_i d h3
        split at h
        · rename_i x h4
          simp only [hs.yields h2 h3 h4]
          cases yes <;> simp at h ⊢ <;> exact h
        · cases h
theorem Sim.same (hs : Sim P X env H a w I μ O) (h : ∀ t, get env' t = get env t) : Sim P X env' H a w I μ O :=
  hs.less (fun s => .inr (h s)) (fun s q off len _ => h q) fun s q i k _ => h q

theorem drawA {m : Nat} {env0 : Env} {tv : List (Nat × AV)} (hok : drawOK ops m = true) (hlen : tv.length = m) (htab : ∀ (i : Nat) o, i < m → ops[i]? = some o → ∃ t v, tv[i]? = some (t, v) ∧ DOne P C ops H env0 (tv.take i).reverse o t v)
    (hsuf : RL P C ops Q m (ops.toList.drop m) (tv.reverse ++ env0) H) (n1 : X.nt = C.nt) (n2 : X.n0 = C.n0) (n3 : X.ne = C.ne) :
    ∀ (fuel : Nat) (L : Array Bool) (a : Act) (w : World) (I : Nat → Prop) (O : Nat → Option Loc), L.size = ops.size → Down ops L → (∀ j, m ≤ j → L.getD j false = false) →
      (List.range m).countP (fun i => !L.getD i false) + (ops.size - m) ≤ fuel → Sim P X (envL tv env0 L) H a w I μ O → wpAnyIn (om C.ro) 0 P .any ops (Post P X Q) fuel L a w := by
  have hle := drawOK_le hok
  have hone : ∀ i, i < m → ∃ o t v, ops[i]? = some o ∧ tv[i]? = some (t, v) ∧ DOne P C ops H env0 (tv.take i).reverse o t v := fun i hi => by
    obtain ⟨t, v, h1, h2⟩ := htab i _ hi (Array.getElem?_eq_getElem (by omega))
    exact ⟨_, t, v, Array.getElem?_eq_getElem (by omega), h1, h2⟩
  have hdist : ∀ (i j t : Nat) v u, tv[i]? = some (t, v) → tv[j]? = some (t, u) → i = j := by
    have lt : ∀ (i j t : Nat) v u, tv[i]? = some (t, v) → tv[j]? = some (t, u) → ¬ i < j := fun i j t v u hi hj hij => by
      have hjm : j < m := by have := (List.getElem?_eq_some_iff.1 hj).1; omega
      obtain ⟨o, t', v', _, k1, k2⟩ := hone j hjm
      rw [hj] at k1; cases k1
      refine k2.2.2.2.1 (t, v) ?_ rfl
      rw [List.mem_reverse]
      exact List.mem_of_getElem? (by rw [List.getElem?_take_of_lt hij]; exact hi)
    intro i j t v u hi hj
    have h1 := lt i j t v u hi hj
    have h2 := lt j i t u v hj hi
    omega
  have hpre : ∀ {e : Env}, (∀ x, x ∈ e ↔ x ∈ tv) → ∀ t, (∃ i v, tv[i]? = some (t, v) ∧ get (e ++ env0) t = v) ∨ ((∀ (i : Nat) v, tv[i]? ≠ some (t, v)) ∧ get (e ++ env0) t = get env0 t) := fun {e} he t => by
    rw [get_append]
    by_cases hc : (e.map (·.1)).contains t = true
    · obtain ⟨x, hx, rfl⟩ := List.mem_map.1 (List.contains_iff_mem.1 hc)
      obtain ⟨i, hi⟩ := List.getElem?_of_mem ((he x).1 hx)
      refine .inl ⟨i, x.2, hi, ?_⟩
      rw [if_pos hc]
      refine get_unique hx fun u hu => ?_
      obtain ⟨j, hj⟩ := List.getElem?_of_mem ((he _).1 hu)
      have := hdist i j x.1 x.2 u hi hj
      subst this
      rw [hi] at hj
      simp only [Option.some.injEq] at hj
      rw [hj]
    · refine .inr ⟨fun i v hi => hc (List.contains_iff_mem.2 (List.mem_map.2 ⟨(t, v), (he _).2 (List.mem_of_getElem? hi), rfl⟩)), by rw [if_neg hc]⟩
  have fin : ∀ (fuel : Nat) (L : Array Bool) (a : Act) (w : World) (I : Nat → Prop) (O : Nat → Option Loc), L.size = ops.size → (∀ j, m ≤ j → L.getD j false = false) → (∀ j, j < m → L.getD j false = true) → ops.size - m ≤ fuel →
      Sim P X (envL tv env0 L) H a w I μ O → wpAnyIn (om C.ro) 0 P .any ops (Post P X Q) fuel L a w := by
    intro fuel L a w I O hL hup hall hf hs
    refine drawB (fun i o ho => (drawOK_at hok ho).1) (fun i o ho hm => (drawOK_at hok ho).2.2 (by omega)) (ops.size - m) m fuel L a w (Nat.le_refl _) (by omega) hf hL (fun j hj => ⟨fun h => ?_, hall j⟩) ?_
    · rcases Nat.lt_or_ge j m with hx | hx
      · exact hx
      · rw [hup j hx] at h; cases h
    have hs' := hs.same (env' := tv.reverse ++ env0) fun t => by
      rcases hpre (e := tv.reverse) (fun x => List.mem_reverse) t with ⟨i, v, h1, h2⟩ | ⟨h1, h2⟩
      · rw [h2, getL_some hdist (hall i (by have := (List.getElem?_eq_some_iff.1 h1).1; omega)) h1]
      · rw [h2, getL_none fun i v _ => h1 i v]
    have := hsuf rfl X a w I μ O n1 n2 n3 hs'
    rw [List.length_drop, Array.length_toList] at this
    exact this
  intro fuel
  induction fuel with
  | zero =>
    intro L a w I O hL hD hup hf hs
    refine fin 0 L a w I O hL hup (fun j hj => ?_) (by omega) hs
    cases hv : L.getD j false with
    | true => rfl
    | false =>
      have : 0 < (List.range m).countP (fun i => !L.getD i false) := List.countP_pos_iff.2 ⟨j, List.mem_range.2 hj, by rw [hv]; rfl⟩
      omega
  | succ fuel ih =>
    intro L a w I O hL hD hup hf hs
    by_cases hall : ∀ j, j < m → L.getD j false = true
    · exact fin _ L a w I O hL hup hall (by omega) hs
    -- the least that is not listed
    have hex : ∃ j, j < m ∧ L.getD j false = false := by
      apply Classical.byContradiction
      intro hno
      refine hall fun j hj => ?_
      cases hv : L.getD j false with
      | true => rfl
      | false => exact absurd ⟨j, hj, hv⟩ hno
    obtain ⟨j0, ⟨hj0, hj1⟩, hmin⟩ : ∃ j, (j < m ∧ L.getD j false = false) ∧ ∀ k, k < j → L.getD k false = true := by
      obtain ⟨j, hj⟩ := hex
      induction j using Nat.strongRecOn with
      | ind j ihj =>
        by_cases hk : ∃ k, k < j ∧ L.getD k false = false
        · obtain ⟨k, hk1, hk2⟩ := hk
          exact ihj k hk1 ⟨by omega, hk2⟩
        · refine ⟨j, hj, fun k hk1 => ?_⟩
          cases hv : L.getD k false with
          | true => rfl
          | false => exact absurd ⟨k, hk1, hv⟩ hk
    have hr0 : j0 ∈ Region.ready .any ops L := mem_ready.2 ⟨by rw [listed_def (by omega)]; exact hj1, _, Array.getElem?_eq_getElem (by omega), fun e he hb => hmin _ ((drawOK_at hok (Array.getElem?_eq_getElem (by omega))).1 e he hb)⟩
    refine ⟨fun h0 => (by rw [h0] at hr0; cases hr0), fun i hi => ?_⟩
    obtain ⟨h1, o, ho, h2⟩ := mem_ready.1 hi
    have hlt := (Array.getElem?_eq_some_iff.1 ho).1
    rw [listed_def (by omega)] at h1
    have him : i < m := by
      rcases Nat.lt_or_ge i m with hx | hx
      · exact hx
      · have := reach_down hD _ _ _ ((drawOK_at hok ho).2.2 (by omega) j0 (by omega)) fun o' ho' e he hb => by rw [ho] at ho'; cases ho'; exact h2 e he hb
        rw [hj1] at this; cases this
    obtain ⟨o', t, v, ho', htv, hd, htn, h0t, hnt, hself, hrk, hrun⟩ := hone i him
    rw [ho] at ho'; cases ho'
    -- what it looks at is known
    have hdir : ∀ (j s : Nat) u, tv[j]? = some (s, u) → s ∈ o.looksAt ops → L.getD j false = true := fun j s u hj hm => by
      have hjm : j < m := by have := (List.getElem?_eq_some_iff.1 hj).1; omega
      obtain ⟨oj, tj, q1, q2, q3⟩ := (drawOK_at hok ho).2.1 him j hjm
      obtain ⟨oj', tj', vj', r1, r2, r3⟩ := hone j hjm
      rw [q1] at r1; cases r1
      rw [hj] at r2; cases r2
      have : tj = s := by have := r3.1; rw [q2] at this; exact Option.some.inj this
      subst this
      obtain ⟨o2, ho2, e, he, hb, rfl⟩ := direct_spec (q3 hm).2
      rw [ho] at ho2; cases ho2
      exact h2 e he hb
    have hle1 : ∀ s, get (pickE (o.looksAt ops) (tv.take i).reverse ++ env0) s = .un ∨ get (pickE (o.looksAt ops) (tv.take i).reverse ++ env0) s = get (envL tv env0 L) s := fun s => by
      rw [get_append]
      split
      · rename_i hc
        obtain ⟨x, hx, rfl⟩ := List.mem_map.1 (List.contains_iff_mem.1 hc)
        have hx' := List.mem_filter.1 hx
        have hin := List.mem_reverse.1 hx'.1
        obtain ⟨j, hj⟩ := List.getElem?_of_mem (List.mem_of_mem_take hin)
        have hlk : x.1 ∈ o.looksAt ops := List.contains_iff_mem.1 hx'.2
        refine .inr ?_
        rw [getL_some hdist (hdir j x.1 x.2 hj hlk) hj]
        refine get_unique hx fun u hu => ?_
        have hu' := List.mem_reverse.1 (List.mem_filter.1 hu).1
        obtain ⟨j', hj'⟩ := List.getElem?_of_mem (List.mem_of_mem_take hu')
        have := hdist j j' x.1 x.2 u hj hj'
        subst this
        rw [hj] at hj'
        simp only [Option.some.injEq] at hj'
        rw [hj']
      · by_cases hex : ∃ (j : Nat) (u : AV), tv[j]? = some (s, u)
        · obtain ⟨j, u, hj⟩ := hex
          have hjm : j < m := by have := (List.getElem?_eq_some_iff.1 hj).1; omega
          obtain ⟨oj, tj, vj, _, r2, r3⟩ := hone j hjm
          rw [hj] at r2; cases r2
          exact .inl r3.2.2.1
        · exact .inr (getL_none fun j u _ hj => hex ⟨j, u, hj⟩).symm
    have hkn : ∀ s, isOwn (get (pickE (o.looksAt ops) (tv.take i).reverse ++ env0) s) = true → get (pickE (o.looksAt ops) (tv.take i).reverse ++ env0) s = get (envL tv env0 L) s := fun s hs => by
      rcases hle1 s with h | h
      · rw [h] at hs; cases hs
      · exact h
    have hle2 : ∀ s q off len, get (pickE (o.looksAt ops) (tv.take i).reverse ++ env0) s = .ref (.t q) off len → get (pickE (o.looksAt ops) (tv.take i).reverse ++ env0) q = get (envL tv env0 L) q := fun s q off len h => by
      have := List.all_eq_true.1 hrk _ (get_mem h (by simp))
      exact hkn q (by simpa using this)
    have hle3 : ∀ s q x y, get (pickE (o.looksAt ops) (tv.take i).reverse ++ env0) s = .ep (.t q) x y → get (pickE (o.looksAt ops) (tv.take i).reverse ++ env0) q = get (envL tv env0 L) q := fun s q x y h => by
      have := List.all_eq_true.1 hrk _ (get_mem h (by simp))
      exact hkn q (by simpa using this)
    have htL : get (envL tv env0 L) t = .un := by
      rw [getL_none fun j u hl hj => by
        have := hdist i j t v u htv hj
        subst this; rw [h1] at hl; cases hl]
      exact h0t
    have hsi := hs.less hle1 hle2 hle3
    have hnext : ∀ a' w' I' O', Sim P X ((t, v) :: envL tv env0 L) H a' w' I' μ O' → wpAnyIn (om C.ro) 0 P .any ops (Post P X Q) fuel (L.setIfInBounds i true) a' w' := fun a' w' I' O' hs' => by
      refine ih _ a' w' I' O' (by simpa using hL) (fun k ok hk hok' e he hb => ?_) (fun j hj => ?_) ?_ (hs'.same fun s => ?_)
      · rw [listed_set (by omega)] at hk ⊢
        split at hk
        · rename_i hik; subst hik
          rw [ho] at hok'; cases hok'
          split
          · rfl
          · exact h2 e he hb
        · split
          · rfl
          · exact hD k ok hk hok' e he hb
      · rw [listed_set (by omega), if_neg (by omega)]; exact hup j hj
      · have := countP_set (fun i => !L.getD i false) (fun k => !(L.setIfInBounds i true).getD k false) i (by simp only [h1]; rfl) (by simp only [listed_set (by omega : i < L.size), if_true]; rfl)
          (fun j hj => by simp only [listed_set (by omega : i < L.size)]; rw [if_neg (Ne.symm hj)]) (List.range m) (List.mem_range.2 him) List.nodup_range
        omega
      · simp only [get]
        split
        · rename_i hts; subst hts
          exact getL_some hdist (by rw [listed_set (by omega), if_pos rfl]) htv
        · rename_i hts
          by_cases hex : ∃ (j : Nat) (u : AV), L.getD j false = true ∧ tv[j]? = some (s, u)
          · obtain ⟨j, u, hj1, hj2⟩ := hex
            rw [getL_some hdist hj1 hj2]
            exact getL_some hdist (by rw [listed_set (by omega)]; split; · rfl
                                      · exact hj1) hj2
          · rw [getL_none fun j u hl hj => hex ⟨j, u, hl, hj⟩]
            refine getL_none fun j u hl hj => ?_
            rw [listed_set (by omega)] at hl
            split at hl
            · rename_i hij; subst hij
              rw [htv] at hj; cases hj; exact hts rfl
            · exact hex ⟨j, u, hl, hj⟩
    unfold wpOpIn
    simp only [ho]
    rcases hrun with ⟨hg, hv⟩ | ⟨hg, rfl⟩
    · rw [if_pos (grd_wanted hsi hg)]
      refine hv.step hd htn hle1 hle2 hle3 (by rw [htL]; rfl) (fun p hp e => ?_) n1 n2 n3 hs hnext
      subst e
      rcases hp with ⟨off, len, rfl⟩ | ⟨x, y, rfl⟩ <;> simp [notSelf] at hself
    · have := grd_wanted hsi hg
      rw [if_neg (by rw [this]; simp)]
      refine ⟨fun _ _ => trivial, ?_⟩
      rw [hd]
      have hp := hs.put_un t (by rw [n1]; exact htn) undef
      rw [put_cons (by rw [htL]; rfl)] at hp
      exact hnext _ _ _ _ hp

/-- A region whose order is drawn: its first m operations only read, those behind come in order. -/
theorem AW.draws {id m : Nat} {env0 fin : Env} {pre : List Oper} (hm : P.follows .mixedOrders = true) (hok : drawOK ops m = true) (hpre : ops.toList.take m = pre) (hDL : DL P C ops H env0 [] pre fin)
    (hsuf : RL P C ops Q m (ops.toList.drop m) (fin ++ env0) H) : AW P C (.region id ops true) Q env0 H := fun X a w I μ O n1 n2 n3 hs => by
  obtain ⟨tv, k1, k2, k3⟩ := hDL.table
  subst hpre
  have hle := drawOK_le hok
  have hlen : tv.length = m := by rw [k1]; simp; omega
  refine wpIn_region_any hm ?_
  have hz : ∀ j, (Array.replicate ops.size false).getD j false = false := fun j => by
    simp only [Array.getD_eq_getD_getElem?, Array.getElem?_replicate]
    split <;> rfl
  have hs' : Sim P X (envL tv env0 (Array.replicate ops.size false)) H a { w with drawn := w.drawn + 1 } I μ O :=
    (hs.grow (w' := { w with drawn := w.drawn + 1 }) ⟨rfl, rfl, rfl, Nat.le_refl _, fun _ _ => rfl⟩).same fun t => getL_none fun i v h => by
      rw [hz] at h; cases h
  rw [k2, List.append_nil] at hsuf
  refine drawA hok hlen (fun i o hi ho => ?_) hsuf n1 n2 n3 ops.size _ a _ I O (by simp) (fun i o h => by rw [hz] at h; cases h) (fun j _ => hz j) ?_ hs'
  · obtain ⟨t, v, m1, m2⟩ := k3 i o (by rw [List.getElem?_take_of_lt hi]; simpa using ho)
    exact ⟨t, v, m1, by simpa using m2⟩
  · have : (List.range m).countP (fun i => !(Array.replicate ops.size false).getD i false) ≤ m := by
      have := List.countP_le_length (p := fun i => !(Array.replicate ops.size false).getD i false) (l := List.range m)
      simpa using this
    omega
end
end Go.FL
/-
  A FUNCTIONAL LOGIC, 19: the rules once more, for regions whose order is drawn.
-/
namespace Go.FL
open Go Go.RowKit

section
variable {P : Program} {C : Cx} {X : Snap} {o : Oper} {ops : Array Oper} {Q : Exit → Env → Heap → Prop} {env env0 vals fin : Env} {H H' : Heap} {a : Act} {w w' : World} {I I' : Nat → Prop} {μ μ' : List Nat} {O O' : Nat → Option Loc}
  {k : Nat} {l : List Oper} {v : AV} {t : Nat}

/-- Operations that only read, and what is asked of all that they give. -/
def DK (P : Program) (C : Cx) (ops : Array Oper) (H : Heap) (env0 vals : Env) (l : List Oper) (K : Env → Prop) : Prop := ∃ fin, DL P C ops H env0 vals l fin ∧ K fin
theorem AW.drawn {id : Nat} (m : Nat) (hm : P.follows .mixedOrders = true) (hok : drawOK ops m = true) (h : DK P C ops H env0 [] (ops.toList.take m) fun fin => RL P C ops Q m (ops.toList.drop m) (fin ++ env0) H) : AW P C (.region id ops true) Q env0 H :=
  let ⟨_, h1, h2⟩ := h; .draws hm hok rfl h1 h2
/-- The next operation. -/
theorem dv {K : Env → Prop} (hv : VOK P C o (pickE (o.looksAt ops) vals ++ env0) H v) (h : DK P C ops H env0 ((t, v) :: vals) l K) (hd : o.dst = some t := by rfl) (hg : grd ops (pickE (o.looksAt ops) vals ++ env0) o true = true := by rfl) (h0 : isUn (get env0 t) = true := by rfl)
    (hn : (vals.map (·.1)).contains t = false := by rfl) (hs : notSelf t v = true := by rfl) (hr : refsKnown (pickE (o.looksAt ops) vals ++ env0) = true := by rfl) (ht : okT C.nt t := by rfl) : DK P C ops H env0 vals (o :: l) K :=
  let ⟨fin, h1, h2⟩ := h; ⟨fin, .run hd ht h0 hn hs hg hv hr h1, h2⟩
theorem dgf {K : Env → Prop} (h : DK P C ops H env0 ((t, .un) :: vals) l K) (hg : grd ops (pickE (o.looksAt ops) vals ++ env0) o false = true := by rfl) (hd : o.dst = some t := by rfl) (h0 : isUn (get env0 t) = true := by rfl)
    (hn : (vals.map (·.1)).contains t = false := by rfl) (hr : refsKnown (pickE (o.looksAt ops) vals ++ env0) = true := by rfl) (ht : okT C.nt t := by rfl) : DK P C ops H env0 vals (o :: l) K :=
  let ⟨fin, h1, h2⟩ := h; ⟨fin, .skip hd ht h0 hn hg hr h1, h2⟩
/-- No more: on to what stands behind. -/
theorem dz {K : Env → Prop} (h : K vals) : DK P C ops H env0 vals [] K := ⟨vals, .nil vals, h⟩

theorem vmvd {x : Operand} {d : DV} (ho : o.op = .move x := by rfl) (hv : lk env x = .d d := by rfl) : VOK P C o env H (.d d) := by
  obtain ⟨h1, h2⟩ := lk_copy hv (by simp)
  have := pv_mv_copy (P := P) (C := C) (env := env) (H := H) (.inl ho) h1 (by rw [h2]; rfl) (by rw [h2]; rfl)
  rw [h2] at this; exact .pv this
theorem vasd {x : Operand} {d : DV} (ho : o.op = .assign x := by rfl) (hv : lk env x = .d d := by rfl) : VOK P C o env H (.d d) := by
  obtain ⟨h1, h2⟩ := lk_copy hv (by simp)
  have := pv_mv_copy (P := P) (C := C) (env := env) (H := H) (.inr ho) h1 (by rw [h2]; rfl) (by rw [h2]; rfl)
  rw [h2] at this; exact .pv this
theorem vmvn {x : Operand} (ho : o.op = .move x := by rfl) (hv : lk env x = .nl := by rfl) : VOK P C o env H .nl := by
  obtain ⟨h1, h2⟩ := lk_copy hv (by simp)
  have := pv_mv_copy (P := P) (C := C) (env := env) (H := H) (.inl ho) h1 (by rw [h2]; rfl) (by rw [h2]; rfl)
  rw [h2] at this; exact .pv this
theorem vmvb {x : Operand} {id off : Nat} (ho : o.op = .move x := by rfl) (hv : lk env x = .bp id off := by rfl) : VOK P C o env H (.bp id off) := by
  obtain ⟨h1, h2⟩ := lk_copy hv (by simp)
  have := pv_mv_copy (P := P) (C := C) (env := env) (H := H) (.inl ho) h1 (by rw [h2]; rfl) (by rw [h2]; rfl)
  rw [h2] at this; exact .pv this
theorem vmvo {s : Nat} {e : TypeId} {xs : List DV} (ho : o.op = .move (.tmp s) := by rfl) (hv : get env s = .own e xs := by rfl) : VOK P C o env H (.ref (.t s) 0 xs.length) :=
  .rel (by simp [ho]) fun X a w I μ O _ hs => ⟨a.tmps.getD s undef, by simp [execOp, ho, Act.eval], rfl, RefRel.self (p := .t s) hs hv rfl⟩
theorem vmvr {s off len : Nat} {p : Pl} (ho : o.op = .move (.tmp s) := by rfl) (hv : get env s = .ref p off len := by rfl) : VOK P C o env H (.ref p off len) :=
  .rel (by simp [ho]) fun X a w I μ O _ hs => ⟨a.tmps.getD s undef, by simp [execOp, ho, Act.eval], rfl, by have := hs.envr s; rw [hv] at this; exact this⟩
theorem vpkd {c x y : Operand} {b : Bool} {d : DV} (ho : o.op = .pick c x y := by rfl) (hc : lk env c = .d (.b b) := by rfl) (hv : lk env (if b then x else y) = .d d := by rfl) : VOK P C o env H (.d d) := by
  obtain ⟨h1, h2⟩ := lk_copy hv (by simp)
  obtain ⟨h3, h4⟩ := lk_copy hc (by simp)
  have := pv_pick (P := P) (C := C) (env := env) (H := H) ho h3 h4 h1 (by rw [h2]; rfl) (by rw [h2]; rfl)
  rw [h2] at this; exact .pv this
theorem vbic {op : BinOp} {xt yt : TypeId} {x y : Operand} {q q' : IntKind} {m n : Int} {c : Prop} {d : DV} (hc : c) (ho : o.op = .binOp op xt x y yt := by rfl)
    (hx : lk env x = .d (.i q m) := by rfl) (hy : lk env y = .d (.i q' n) := by rfl) (hb : ibin op q m n = some (c, d) := by rfl) (hk : (decide (q' = q) || isShift op) = true := by rfl) : VOK P C o env H (.d d) := by
  obtain ⟨h1, h2⟩ := lk_copy hx (by simp)
  obtain ⟨h3, h4⟩ := lk_copy hy (by simp)
  exact .pv (pv_ibin ho h1 h3 h2 h4 (by simpa using hk) hb hc)
theorem vbi {op : BinOp} {xt yt : TypeId} {x y : Operand} {q q' : IntKind} {m n : Int} {d : DV} (ho : o.op = .binOp op xt x y yt := by rfl)
    (hx : lk env x = .d (.i q m) := by rfl) (hy : lk env y = .d (.i q' n) := by rfl) (hb : ibin op q m n = some (True, d) := by rfl) (hk : (decide (q' = q) || isShift op) = true := by rfl) : VOK P C o env H (.d d) := vbic trivial ho hx hy hb hk
theorem vbie {op : BinOp} {xt yt : TypeId} {x y : Operand} {q q' : IntKind} {m n : Int} {c : Prop} {d : DV} (d' : DV) (hc : c ∧ d = d') (ho : o.op = .binOp op xt x y yt := by rfl)
    (hx : lk env x = .d (.i q m) := by rfl) (hy : lk env y = .d (.i q' n) := by rfl) (hb : ibin op q m n = some (c, d) := by rfl) (hk : (decide (q' = q) || isShift op) = true := by rfl) : VOK P C o env H (.d d') := by
  obtain ⟨hc, rfl⟩ := hc; exact vbic hc ho hx hy hb hk
theorem vad {xt yt : TypeId} {x y : Operand} {q' : IntKind} {m n : Int} (z : Int) (hz : m + n = z ∧ -9223372036854775808 ≤ z ∧ z ≤ 9223372036854775807) (ho : o.op = .binOp .add xt x y yt := by rfl)
    (hx : lk env x = .d (.i .i64 m) := by rfl) (hy : lk env y = .d (.i q' n) := by rfl) (hk : q' = .i64 := by rfl) : VOK P C o env H (.d (.i .i64 z)) := by
  obtain ⟨rfl, h1, h2⟩ := hz
  exact vbie (.i .i64 (m + n)) ⟨trivial, by rw [wrap64 h1 h2]⟩ ho hx hy rfl (by simp [hk])
theorem vsu {xt yt : TypeId} {x y : Operand} {q' : IntKind} {m n : Int} (z : Int) (hz : m - n = z ∧ -9223372036854775808 ≤ z ∧ z ≤ 9223372036854775807) (ho : o.op = .binOp .sub xt x y yt := by rfl)
    (hx : lk env x = .d (.i .i64 m) := by rfl) (hy : lk env y = .d (.i q' n) := by rfl) (hk : q' = .i64 := by rfl) : VOK P C o env H (.d (.i .i64 z)) := by
  obtain ⟨rfl, h1, h2⟩ := hz
  exact vbie (.i .i64 (m - n)) ⟨trivial, by rw [wrap64 h1 h2]⟩ ho hx hy rfl (by simp [hk])
theorem vml {xt yt : TypeId} {x y : Operand} {q' : IntKind} {m n : Int} (z : Int) (hz : m * n = z ∧ -9223372036854775808 ≤ z ∧ z ≤ 9223372036854775807) (ho : o.op = .binOp .mul xt x y yt := by rfl)
    (hx : lk env x = .d (.i .i64 m) := by rfl) (hy : lk env y = .d (.i q' n) := by rfl) (hk : q' = .i64 := by rfl) : VOK P C o env H (.d (.i .i64 z)) := by
  obtain ⟨rfl, h1, h2⟩ := hz
  exact vbie (.i .i64 (m * n)) ⟨trivial, by rw [wrap64 h1 h2]⟩ ho hx hy rfl (by simp [hk])
theorem vbbn {op : BinOp} {xt yt : TypeId} {x y : Operand} {b c : Bool} (hop : op = .eql ∨ op = .neq) (hu : P.underlying xt = some .bool) (ho : o.op = .binOp op xt x y yt := by rfl)
    (hx : lk env x = .d (.b b) := by rfl) (hy : lk env y = .d (.b c) := by rfl) : VOK P C o env H (.d (.b (if op = .eql then b == c else b != c))) := by
  obtain ⟨h1, h2⟩ := lk_copy hx (by simp)
  obtain ⟨h3, h4⟩ := lk_copy hy (by simp)
  exact .pv (pv_bbin ho hop hu h1 h3 h2 h4)
theorem vnt {xt : TypeId} {x : Operand} {b : Bool} (ho : o.op = .unOp .not xt x := by rfl) (hx : lk env x = .d (.b b) := by rfl) : VOK P C o env H (.d (.b (!b))) := by
  obtain ⟨h1, h2⟩ := lk_copy hx (by simp)
  exact .pv (pv_not ho h1 h2)
theorem vcv {src dst : Nat} {x : Operand} {q q1 q' : IntKind} {n : Int} (hs : P.underlying src = some (.int q1)) (hd' : P.underlying dst = some (.int q')) (ho : o.op = .convert src dst x := by rfl) (hx : lk env x = .d (.i q n) := by rfl) :
    VOK P C o env H (.d (.i q' (q'.wrap n))) := .pv (pv_cvt ho ⟨q1, hs⟩ hd' hx)
theorem vcve {src dst : Nat} {x : Operand} {q q1 q' : IntKind} {n : Int} (n' : Int) (hn : q'.wrap n = n') (hs : P.underlying src = some (.int q1)) (hd' : P.underlying dst = some (.int q')) (ho : o.op = .convert src dst x := by rfl) (hx : lk env x = .d (.i q n) := by rfl) :
    VOK P C o env H (.d (.i q' n')) := by subst hn; exact vcv hs hd' ho hx
theorem vln {c : Call} {x : Operand} {ty : Nat} {xs : List DV} (hsz : ∃ sz, ∀ x ∈ xs, x.cells.length = sz) (hu : P.underlying ty = some (.slice (P.elem ty))) (ho : o.op = .call c := by rfl) (hc : c.callee = .builtin .len := by rfl) (hx : c.args = #[x] := by rfl)
    (hty : c.argTypes = #[ty] := by rfl) (hv : rd env H (lk env x) = some xs := by rfl) : VOK P C o env H (.d (.i .i64 xs.length)) := .pv (pv_len ho hc hx hty hu hv hsz)
theorem vlnr {c : Call} {r ty off len : Nat} {p : Pl} (hu : P.underlying ty = some (.slice (P.elem ty))) (ho : o.op = .call c := by rfl) (hc : c.callee = .builtin .len := by rfl) (hx : c.args = #[.tmp r] := by rfl) (hty : c.argTypes = #[ty] := by rfl)
    (hv : get env r = .ref p off len := by rfl) : VOK P C o env H (.d (.i .i64 len)) := .pv ⟨by simp [ho], fun X a w I μ O _ hs => ⟨_, run_lnr ho hc hx hty hu hv hs, .of_rep (.i _ _)⟩⟩
theorem vlns {c : Call} {x : Operand} {ty : Nat} {s : ByteArray} (hu : P.underlying ty = some .string) (ho : o.op = .call c := by rfl) (hc : c.callee = .builtin .len := by rfl) (hx : c.args = #[x] := by rfl)
    (hty : c.argTypes = #[ty] := by rfl) (hv : lk env x = .d (.s s) := by rfl) : VOK P C o env H (.d (.i .i64 s.size)) := .pv (pv_len_s ho hc hx hty hu hv)
theorem vix {x i : Operand} {ty e sz by_ : Nat} {xs : List DV} {q : IntKind} {z : Int} {d : DV} (n : Nat) (hn : z = n) (hx : xs[n]? = some d) (hsz : d.cells.length = sz) (hty : sliceT P ty = some (e, sz, by_)) (ho : o.op = .indexAddr ty x i := by rfl)
    (hv : lk env x = .d (.sl xs) := by rfl) (hi : lk env i = .d (.i q z) := by rfl) : VOK P C o env H (.d (.ptr d.cells)) := by
  subst hn
  have hl : n < xs.length := (List.getElem?_eq_some_iff.1 hx).1
  have hg' : xs.getD (n : Int).toNat default = d := by simp [List.getD_eq_getElem?_getD, hx]
  obtain ⟨h1, h2⟩ := lk_copy hv (by simp)
  obtain ⟨h3, h4⟩ := lk_copy hi (by simp)
  have := pv_iad_d (P := P) (C := C) (env := env) (H := H) ho h1 h3 hty h2 h4 (by omega) (by omega) (by rw [hg']; exact hsz)
  rw [hg'] at this; exact .pv this
theorem vldp {x : Operand} {ty : Nat} {d : DV} {cs : List DV} (hag : aggT P ty = some false) (ho : o.op = .load ty x := by rfl) (hv : lk env x = .d (.ptr (d :: cs)) := by rfl) : VOK P C o env H (.d d) := by
  obtain ⟨h1, h2⟩ := lk_copy hv (by simp)
  exact .pv (pv_ld_ptr ho h1 hag h2 (by simp))
theorem vlde {s ty i j e : Nat} {p : Pl} {xs : List DV} (d : DV) (hx : ∃ x, xs[i]? = some x ∧ x.cells[j]? = some d) (hag : aggT P ty = some false) (ho : o.op = .load ty (.tmp s) := by rfl) (hv : get env s = .ep p i j := by rfl) (hp : plAV env H p = .own e xs := by rfl) :
    VOK P C o env H (.d d) := by
  obtain ⟨x, hx, hj⟩ := hx
  have := pv_ld_ep (P := P) (C := C) (env := env) (H := H) ho (by simp [fitsO]) hag hv hp
  simp only [List.getD_eq_getElem?_getD, hx, hj, Option.getD_some] at this
  exact .pv this
theorem vsl {x : Operand} {ty e sz by_ : Nat} {lo hi mx : Option Operand} {xs : List DV} {zl zh zm : Int} (l' h' : Nat) (hb : zl = l' ∧ zh = h' ∧ l' ≤ h' ∧ zh ≤ zm ∧ zm ≤ xs.length) (hsz : ∀ x ∈ xs, x.cells.length = sz) (hty : sliceT P ty = some (e, sz, by_))
    (ho : o.op = .slice ty x lo hi mx := by rfl) (hv : lk env x = .d (.sl xs) := by rfl) (hl : lookB env 0 (lo.map aoOf) = some zl := by rfl) (hh : lookB env xs.length (hi.map aoOf) = some zh := by rfl) (hm : lookB env zh (mx.map aoOf) = some zm := by rfl)
    (hfl : fitsOo lo (lo.map aoOf) = true := by rfl) (hfh : fitsOo hi (hi.map aoOf) = true := by rfl) (hfm : fitsOo mx (mx.map aoOf) = true := by rfl) (hmh : (mx.isNone || hi.isSome) = true := by rfl) : VOK P C o env H (.d (.sl ((xs.drop l').take (h' - l')))) := by
  obtain ⟨rfl, rfl, h1, h2, h3⟩ := hb
  obtain ⟨k1, k2⟩ := lk_copy hv (by simp)
  have := pv_slc_d (P := P) (C := C) (env := env) (H := H) ho k1 hfl hfh hfm hty k2 hl hh hm (by cases mx <;> cases hi <;> simp at hmh ⊢) (by omega) (by omega) h2 h3 hsz
  simp only [Int.toNat_natCast] at this
  exact .pv this
theorem vmn {c : Call} {x y : Operand} {q q' : IntKind} {m n : Int} (ho : o.op = .call c := by rfl) (hc : c.callee = .builtin .min := by rfl) (hx : c.args = #[x, y] := by rfl) (hxv : lk env x = .d (.i q m) := by rfl) (hyv : lk env y = .d (.i q' n) := by rfl) :
    VOK P C o env H (.d (.i q (if n < m then n else m))) := .pv (pv_min ho hc hx hxv hyv)
theorem vmx {c : Call} {x y : Operand} {q q' : IntKind} {m n : Int} (ho : o.op = .call c := by rfl) (hc : c.callee = .builtin .max := by rfl) (hx : c.args = #[x, y] := by rfl) (hxv : lk env x = .d (.i q m) := by rfl) (hyv : lk env y = .d (.i q' n) := by rfl) :
    VOK P C o env H (.d (.i q (if m < n then n else m))) := .pv (pv_max ho hc hx hxv hyv)
/-- An element's address, of a slice of the call's own. -/
theorem vixr {r : Nat} {i : Operand} {ty e sz by_ off len : Nat} {p : Pl} {xs : List DV} {q : IntKind} {z : Int} (n : Nat) (hn : z = n) (hl : n < len) (hty : sliceT P ty = some (e, sz, by_)) (hz : 0 < sz) (ho : o.op = .indexAddr ty (.tmp r) i := by rfl)
    (hv : get env r = .ref p off len := by rfl) (hp : plAV env H p = .own e xs := by rfl) (hi : lk env i = .d (.i q z) := by rfl) : VOK P C o env H (.ep p (off + n) 0) := by
  subst hn
  obtain ⟨k3, k4⟩ := lk_copy hi (by simp)
  refine .rel (by simp [ho]) fun X a w I μ O _ hs => ?_
  obtain ⟨inf, s1, s2, s3, _, s5⟩ := sliceT_spec hty
  have hni := hs.look_i k3 k4
  have hrr := hs.envr r
  rw [hv] at hrr
  obtain ⟨e', ys, A, m, c, g1, g2, g3, g4⟩ := hrr
  rw [hp] at g1; cases g1
  obtain ⟨v0, bs, f1, f2, _, _⟩ := hs.at_place hp
  rw [g2] at f1; cases f1
  obtain ⟨c1, c2, c3⟩ := own_cap f2
  obtain ⟨b, rfl⟩ := c3 (by omega)
  obtain ⟨A', c', q1, q2, q3, q4⟩ := g4
  have hA : (some (⟨b, 0, none⟩ : Addr)).map (·.add (off * szOf P e)) = some ⟨b, off * szOf P e, none⟩ := by simp [addr_add]
  rw [q4 (by omega), hA] at q1
  have hc1 : (n : Int) < (len : Int) := by omega
  refine ⟨.pointer (some ⟨b, (off + n) * szOf P e + 0, none⟩), ?_, rfl, e, xs, b, m, c, hp, g2, by omega, by omega, rfl⟩
  have he : a.eval (.tmp r) = .slice (some ⟨b, off * szOf P e, none⟩) len c' := q1
  simp [execOp, ho, he, hni, Instr.indexAt, asIntOf, run_underlying s1, hl, run_sizeOf s2, s3, addr_add, Nat.add_mul, s5]
theorem vcl {c : Call} {fo : Operand} {f : Nat} {first xs caps : List DV} {r : AV} (hfn : Fn P f (first ++ xs ++ caps) r) (hcall : ∀ args w, (callFunc f args).run P w = .ok (.enter f args) w) (ho : o.op = .call c := by rfl) (hc : c.callee = .value fo := by rfl)
    (hfo : lk env fo = .d (.fn f first caps) := by rfl) (ha : argsD env c.args.toList = some xs := by rfl) (hr : isRef r = false := by rfl) : VOK P C o env H r := by
  intro X a w I μ O next Q h1 h2 h3 hs hn
  have hfr := hs.deep (x := fo) (v := .fn f first caps) (by rw [hfo]; rfl)
  generalize hev : a.eval fo = u at hfr
  cases hfr with
  | fn _ _ _ fs cs hfs hcs =>
    refine ⟨fun _ _ => trivial, ?_⟩
    have hres := run_resolve_value (P := P) (w := w) (ρ := a.eval) (ty := o.type) hc hev
    have hex : (execOp a.eval o).run P w = .ok (.enter f (fs.toArray ++ c.args.map a.eval ++ cs.toArray)) w := by
      simp only [execOp, ho, Sem.run_bind, hres, Result.andThen_ok, invoke, hcall]
    rw [Oper.semAt_eq _ _ _ (by simp [ho]), hex, Oper.uponIn_enter]
    refine ⟨fun h => (by simp [om] at h), ?_⟩
    have hcl := hfn w I _ hs.ilt ((hfs.append (hs.argsD ha)).append hcs)
    have e : (fs ++ c.args.toList.map a.eval ++ cs).toArray = fs.toArray ++ c.args.map a.eval ++ cs.toArray := by
      apply Array.ext'; simp
    rw [e] at hcl
    refine ⟨trivial, fun csF hroom => ?_⟩
    obtain ⟨e, w', fr, ⟨v, I', bs, rfl, q1, q2, q3, q4, q5, q6⟩, s, x⟩ := hcl.2 csF (room_wide _)
    exact ⟨.returned v, w', fr, hn v w' I' bs q1 q2 q3 (vrep_of (q4.keep (fun _ h => h) (fun _ _ => rfl) (fun i b h => by simp at h) fun _ _ => rfl) hr) q5 q6, s, x⟩
theorem vbsl {ty e sz by_ len : Nat} {z : Value} {parts : Array (Nat × Operand)} {xs : List Operand} {ds : List DV} (hsz : ∀ d ∈ ds, d.flat = true ∧ d.cells.length = sz) (hT : elemT P ty = some (e, sz, by_, z))
    (ho : o.op = .buildSlice ty len parts := by rfl) (hp : partXs 0 parts.toList = some xs := by rfl) (hlen : xs.length = len := by rfl) (ha : argsD env xs = some ds := by rfl) (hsmall : len * sz ≤ 16777216 := by decide) : VOK P C o env H (.own e ds) := by
  intro X a w I μ O next Q h1 h2 h3 hs hn
  obtain ⟨i, i1, i2, i3, i4, i5, i6, i7, i8⟩ := elemT_spec hT
  have hr := hs.argsD ha
  obtain ⟨k1, k2⟩ := rows_of hr hsz
  have hdl : ds.length = len := by rw [hr.length]; simpa using hlen
  have hm : ds.length ≤ maxLen := by
    rw [hdl]
    have : len ≤ 16777216 := Nat.le_trans (Nat.le_mul_of_pos_right _ i7) hsmall
    simp only [maxLen]; omega
  have hl : (xs.map a.eval).length = len := by simpa using hlen
  have hrun := run_buildSlice_rows (P := P) (w := w) hT (vs := xs.map a.eval) (by rw [hl]; exact hsmall) k2
  have hparts : parts.map (fun (x : Nat × Operand) => (x.1, a.eval x.2)) = (((xs.map a.eval).zipIdx 0).map fun x => (x.2, x.1)).toArray := by
    apply Array.ext'
    rw [Array.toList_map, partXs_spec hp]
    simp [List.zipIdx_map]
  have hex : (execOp a.eval o).run P w = .ok (.value (.slice (some ⟨w.heap.size, 0, none⟩) ds.length ds.length)) (w.alloc (.cells ((xs.map a.eval).flatMap (·.cells.toList)).toArray e)) := by
    simp only [execOp, ho, Sem.run_bind]
    rw [show (parts.map fun x => match x with | (i, x) => (i, a.eval x)) = parts.map (fun (x : Nat × Operand) => (x.1, a.eval x.2)) from rfl, hparts, hdl, ← hl, hrun]
    simp only [Result.andThen_ok, Sem.run_pure]
  refine ⟨fun _ _ => trivial, ?_⟩
  rw [Oper.semAt_eq _ _ _ (by simp [ho]), hex, Oper.uponIn_value]
  have hbel : Below w.heap.size w (w.alloc (.cells ((xs.map a.eval).flatMap (·.cells.toList)).toArray e)) := (Below.refl _ _).alloc (Nat.le_refl _) _
  have hl2 : ((xs.map a.eval).flatMap (·.cells.toList)).toArray.size = ds.length * szOf P e := by rw [i8]; simpa using k1.length
  have hbs : ∀ b ∈ ownBs (.slice (some ⟨w.heap.size, 0, none⟩) ds.length ds.length), b = w.heap.size := fun b hb => by
    simp only [ownBs] at hb
    split at hb <;> simp at hb
    exact hb
  refine hn _ _ I (ownBs (.slice (some ⟨w.heap.size, 0, none⟩) ds.length ds.length)) hbel (fun _ h => h) (fun b hi => ⟨by have := hs.ilt b hi; simp; omega, fun _ => hi⟩) ?_ (ownBs_nodup _) fun b hb => ?_
  · have := ARep.own (P := P) (μ := μ) (I := I) e ds (.slice (some ⟨w.heap.size, 0, none⟩) ds.length ds.length) ((xs.map a.eval).flatMap (·.cells.toList)).toArray.toList (by omega)
      (.of <| World.ownsRow_lit w _ ds.length (base := 0) (e := e) (Nat.zero_le _) hm hl2) (by
        rw [i8]; simpa using k1.keep (fun b hi => hbel.block b (hs.ilt b hi)) fun _ h => h)
    exact this
  · rw [hbs b hb]
    exact ⟨Nat.le_refl _, by simp, fun hi => by have := hs.ilt _ hi; omega⟩
end
end Go.FL
/-
  A FUNCTIONAL LOGIC, 20: from what a law gives at deep values to the statement's own form: arguments are opened; they read behind the call as before.
-/
namespace Go.FL
open Go Go.RowKit Go.ChangeShapes Go.WideShapes Go.ChangeAt

section
variable {H : Type} {enc : TypeId × Value → H} {P : Program} {W W' : World}

theorem trodAll_stays (hl : laidOutB P = true) (hb : Below W.heap.size W W') {sp : Nat → Bool} : ∀ {ts : List TypeId} {vs : List Value} {ds : List (DataW H)} {ps : List MemPlace}, (∀ t ∈ ts, P.readableRec t = true ∧ t < P.types.size) →
    DataW.TrodAll enc P W 0 (fun _ => true) true ts vs ds ps → (∀ x ∈ ps, x.block < W.heap.size) → (∀ x ∈ ps, sp x.block = true) → DataW.TrodAll enc P W' 0 sp true ts vs ds ps := by
  intro ts
  induction ts with
  | nil =>
    intro vs ds ps _ h _ _
    obtain ⟨rfl, rfl, rfl⟩ := trodAll_nil h
    exact trodAll_mk0
  | cons t ts ih =>
    intro vs ds ps ht h hlt hsp
    obtain ⟨v, vs', d, ds', p, q, rfl, rfl, rfl, h1, h2⟩ := trodAll_cons h
    obtain ⟨hr, hrow⟩ := ht t (by simp)
    exact trodAll_cons_mk (WideElems.Trod_stays hl hr hrow h1 (fun x hx => hb.same (hlt x (by simp [hx]))) fun x hx => hsp x (by simp [hx]))
      (ih (fun t' ht' => ht t' (by simp [ht'])) h2 (fun x hx => hlt x (by simp [hx])) fun x hx => hsp x (by simp [hx]))

/-- A law's answer, and its arguments as they were. -/
theorem post_law {f : Func} {s : ChangeSpec} {args : Array Value} {ds gs : List (DataW H)} {before : List MemPlace} {t : TypeId} (hW : DataW.Whole enc P f.params.toList s.vars false W args.toList ds gs before) (hv : s.vars = [])
    (hs : gs = [] → s.fn H (ds ++ gs) = { results := [.lit (.bool true)], args := ds }) (hr : f.resultTypes = #[t]) (ht : P.underlying t = some .bool) (hl : laidOutB P = true) (hts : ∀ t ∈ f.params.toList, P.readableRec t = true ∧ t < P.types.size) (hb : Below W.heap.size W W') :
    s.post enc P f false true false false W args (.bool true) W' := by
  have hold : ∀ p ∈ before, p.block < W.heap.size := hW.lt
  have hW0 := hW
  obtain ⟨p, q, hA, hV, rfl, hfz, _⟩ := hW
  rw [hv] at hV
  obtain ⟨rfl, rfl⟩ := trodVars_none hV
  have hs := hs rfl
  have hbo : (fun b => decide (b < W.heap.size)) = (fun b => decide (b < W.heap.size)) := rfl
  refine ⟨ds, [], p ++ [], [], p, [], hW0, ?_, ?_, ?_, hb.frame _, fun h => (by cases h)⟩
  · rw [hs, hr]
    exact trodAll_cons_mk (shut_bool ht true) trodAll_mk0
  · rw [hs]
    exact trodAll_stays hl hb hts hA (fun x hx => hold x (by simp [hx])) fun x hx => by simpa using hold x (by simp [hx])
  · rw [hs, hv]; rfl

/-! ### arguments -/
theorem arg_int {t : TypeId} {k : IntKind} {v : Value} {d : DataW H} {ps : List MemPlace} (ht : P.underlying t = some (.int k)) (hval : Value.okWide P W .any 0 t v) (hd : DataW.Trod enc P W 0 (fun _ => true) true t v d ps) :
    ∃ n, (Lit.int k n).wf = true ∧ Rep W (fun b => b < W.heap.size) (.i k n) v := by
  obtain ⟨n, rfl, _, _, hw⟩ := open_int ht hval hd
  exact ⟨n, hw, .i k n⟩
theorem arg_string {t : TypeId} {v : Value} {d : DataW H} {ps : List MemPlace} (ht : P.underlying t = some .string) (hval : Value.okWide P W .any 0 t v) (hd : DataW.Trod enc P W 0 (fun _ => true) true t v d ps) :
    ∃ s : ByteArray, s.size ≤ maxLen ∧ Rep W (fun b => b < W.heap.size) (.s s) v := by
  obtain ⟨s, rfl, _, _, hw⟩ := Go.ChangeMaps.open_string ht hval hd
  exact ⟨s, hw, .s s⟩
theorem arg_bool {t : TypeId} {v : Value} {d : DataW H} {ps : List MemPlace} (ht : P.underlying t = some .bool) (hval : Value.okWide P W .any 0 t v) (hd : DataW.Trod enc P W 0 (fun _ => true) true t v d ps) :
    ∃ b, Rep W (fun b => b < W.heap.size) (.b b) v := by
  obtain ⟨s, rfl, _, _⟩ := open_bool ht hval hd
  exact ⟨s, .b s⟩
theorem rows_ints {I : Nat → Prop} (k : IntKind) : ∀ zs : List Int, RepRows W I 1 (zs.map (.i k)) (zs.map (Value.int k))
  | [] => .nil _
  | z :: zs => by
    have := RepRows.cons (sz := 1) (w := W) (I := I) (x := .i k z) (us := [.int k z]) rfl (by simp [Value.oneCell']) (.cons (.i k z) .nil) (rows_ints k zs)
    simpa using this
theorem arg_ints {t e : TypeId} {k : IntKind} {v : Value} {d : DataW H} {ps : List MemPlace} (ht : P.underlying t = some (.slice e)) (he : P.underlying e = some (.int k)) (hc : P.cellsOf e = 1) (hval : Value.okWide P W .any 0 t v)
    (hd : DataW.Trod enc P W 0 (fun _ => true) true t v d ps) : ∃ zs : List Int, (∀ z ∈ zs, (Lit.int k z).wf = true) ∧ zs.length ≤ maxLen ∧ Rep W (fun b => b < W.heap.size) (.sl (zs.map (.i k))) v := by
  obtain ⟨a0, l0, c0, rfl⟩ := okWide_slice ht hval
  obtain ⟨fuel, hf⟩ := hd
  rcases open_ints ht he hc hf with ⟨h1, _⟩ | ⟨a, len, cap, zs, h1, _, hlc, hcm, hzl, _, hcell, hwf⟩
  · simp only [Value.cells, List.cons.injEq, Value.slice.injEq, and_true] at h1
    obtain ⟨rfl, rfl, rfl⟩ := h1
    exact ⟨[], by simp, by simp, .sl0 _ _⟩
  · simp only [Value.cells, List.cons.injEq, Value.slice.injEq, and_true] at h1
    obtain ⟨rfl, rfl, rfl⟩ := h1
    simp only [if_true] at hzl
    refine ⟨zs.take l0, fun z hz => hwf z (List.mem_of_mem_take hz), by simp; omega, ?_⟩
    have hlen : ((zs.take l0).map (DV.i k)).length = l0 := by simp; omega
    by_cases h0 : l0 = 0
    · subst h0; simp; exact .sl0 _ _
    · obtain ⟨b, off, rfl, hcb⟩ := ints_at hcell (by omega)
      have hh : Has W b off (zs.map (Value.int k)) := fun j u hj => by
        have hj' : j < zs.length := by have := (List.getElem?_eq_some_iff.1 hj).1; simpa using this
        have h2 := hcell j hj'
        rw [addr_add] at h2
        rw [h2, ← hj]
        simp [List.getD_eq_getElem?_getD, hj']
      have hlt : b < W.heap.size := World.block_lt_of_cell? W _ (hh 0 (.int k (zs.getD 0 0)) (by
        have : 0 < zs.length := by omega
        simp [List.getD_eq_getElem?_getD, this]))
      have hr := (rows_ints (W := W) (I := fun b => b < W.heap.size) k zs).take l0
      have := Rep.sl (w := W) (I := fun b => b < W.heap.size) ((zs.take l0).map (.i k)) b off 1 c0 _ (by intro h; rw [h] at hlen; simp at hlen; omega) (by rw [hlen]; exact hlc) hlt (by omega) (hh.take (l0 * 1)) (by simpa [List.map_take] using hr)
      rwa [hlen] at this

/-- Called with arguments that read so, it gives true. -/
theorem law_calls {f : FuncId} {dvs : List DV} {vs : List Value} (h : Fn P f dvs (.d (.b true))) (hr : RepAll W (fun b => b < W.heap.size) dvs vs) :
    Calls P f vs.toArray W fun e W' => e = .returned (.bool true) ∧ Below W.heap.size W W' := by
  have := h W _ vs (fun b hb => hb) hr
  refine CallsIn.calls (this.mono fun e w' ⟨v, I', bs, h1, h2, _, _, h5, _⟩ => ⟨?_, h2⟩) room_wide
  cases h5 with
  | d h5 => cases h5; exact h1
end
end Go.FL
/-
  A FUNCTIONAL LOGIC, 21: functions that are handed pointers to boxes, or a slice of the caller's own in which they write.
-/
namespace Go.FL
open Go Go.RowKit

/-- Called with these values, over these objects, f returns r; the first arguments read args' then, the objects H'. -/
def FnG (P : Program) (f : FuncId) (args : List AV) (H : Heap) (r : AV) (args' : List AV) (H' : Heap) : Prop :=
  ∀ (X : Snap) (w : World) (I : Nat → Prop) (μ : List Nat) (O : Nat → Option Loc) (vs : List Value) (bs : List Nat), X.w = w → X.I = I → X.n0 = 0 → X.ne = H.length → X.μ = μ → Mem P X H w I μ O → ARepAll P w I μ args vs bs → bs.Nodup → (∀ b ∈ bs, O b = some .r) →
    CallsIn (om none) 0 P f vs.toArray w fun e w' => ∃ v I' μ' O' G rs bs', e = .returned v ∧ Mem P X (H' ++ G) w' I' μ' O' ∧ ARep P w' I' μ' r v rs ∧ ARepAll P w' I' μ' args' (vs.take args'.length) bs' ∧ (rs ++ bs').Nodup ∧ ∀ b ∈ rs ++ bs', ∃ n, O' b = some (.t n)

def argsE : Nat → List AV → Env → Env
  | _, [], e => e
  | k, a :: r, e => argsE (k + 1) r ((k, a) :: e)

section
variable {P : Program} {C : Cx} {X : Snap} {o : Oper} {ops : Array Oper} {Q : Exit → Env → Heap → Prop} {env env' : Env} {H H' : Heap} {a : Act} {w w' : World} {I I' : Nat → Prop} {μ μ' : List Nat} {O O' : Nat → Option Loc}
  {K : Env → Heap → Prop} {k : Nat} {l : List Oper}

theorem Mem.cast {Y : Snap} (h : Mem P X H w I μ O) (e1 : Y.w = X.w) (e2 : Y.I = X.I) (e3 : Y.K = X.K) (e4 : Y.n0 = X.n0) (e5 : Y.ne = X.ne) (e6 : Y.μ = X.μ) : Mem P Y H w I μ O := by
  cases X; cases Y; simp only at e1 e2 e3 e4 e5 e6
  subst e1 e2 e3 e4 e5 e6
  exact ⟨h.prot, h.kO, h.kI, h.mono, h.os, h.tape, h.output, h.size, h.own, h.ilt, h.μlen, h.μpre, h.nle, h.heap, h.klt, h.n0le⟩
/-- Labels of blocks that no object has may be turned. -/
theorem Mem.lab (h : Mem P X H w I μ O) (hlt : ∀ b l, O' b = some l → b < w.heap.size ∧ ¬ I b) (hK : ∀ b, X.K b → O' b = none) (ho : ∀ b id, O b = some (.o id) → O' b = some (.o id)) : Mem P X H w I μ O' where
  prot := h.prot
  kO := hK
  kI := h.kI
  mono := h.mono
  os := h.os
  tape := h.tape
  output := h.output
  size := h.size
  own := hlt
  ilt := h.ilt
  μlen := h.μlen
  μpre := h.μpre
  nle := h.nle
  heap id o' ho' := by
    obtain ⟨blk, bs, h1, h2, h3, h4⟩ := h.heap id o' ho'
    exact ⟨blk, bs, h1, h2, fun hn => ⟨(h3 hn).1, fun b hb => ho b id ((h3 hn).2 b hb)⟩, h4⟩
  klt := h.klt
  n0le := h.n0le

theorem ARep.noRef {av : AV} {v : Value} {bs : List Nat} (h : ARep P w I μ av v bs) : isRef av = false := by cases h <;> rfl
/-- A temporary's value is known. -/
theorem Sim.adopt (hs : Sim P X env H a w I μ O) {t : Nat} {av : AV} {bs : List Nat} (hr : ARep P w I μ av (a.tmps.getD t undef) bs) (hn : bs.Nodup) (hb : ∀ b ∈ bs, O b = some .r) (h0 : isOwn (get env t) = false) :
    Sim P X ((t, av) :: env) H a w I μ (fun b => if b ∈ bs then some (.t t) else O b) := by
  have hO : ∀ b l, O b = some l → l ≠ .r → (if b ∈ bs then some (Loc.t t) else O b) = some l := fun b l h hl => by
    rw [if_neg fun hm => hl (by have := hb b hm; rw [h] at this; exact Option.some.inj this)]; exact h
  refine ⟨hs.toMem.lab (fun b l h => ?_) (fun b hk => ?_) fun b id h => hO b _ h (by simp), fun s => ?_, hs.nt, hs.dfs⟩
  · by_cases hm : b ∈ bs
    · exact hs.own b _ (hb b hm)
    · rw [if_neg hm] at h; exact hs.own b l h
  · rw [if_neg fun hm => by have := hs.kO b hk; rw [hb b hm] at this; cases this]; exact hs.kO b hk
  · by_cases hst : t = s
    · subst hst
      have : get ((t, av) :: env) t = av := by simp [get]
      rw [this]
      exact .of hr hn fun b hm => by simp [hm]
    · have hg : get ((t, av) :: env) s = get env s := by simp [get, hst]
      rw [hg]
      have hpl : ∀ p e xs, plAV env H p = .own e xs → plAV ((t, av) :: env) H p = .own e xs := by
        intro p e xs hx
        cases p with
        | t r =>
          show get _ r = _
          by_cases hr : t = r
          · subst hr; rw [show plAV env H (.t t) = get env t from rfl] at hx; rw [hx] at h0; cases h0
          · simp only [get, if_neg hr]; exact hx
        | c id off => exact hx
      have h := hs.envr s
      cases hgs : get env s with
      | ref p off len =>
        rw [hgs] at h
        obtain ⟨e, xs, A, n, c, h1, h2⟩ := h
        exact ⟨e, xs, A, n, c, hpl p e xs h1, h2⟩
      | ep p i k =>
        rw [hgs] at h
        obtain ⟨e, xs, b, n, c, h1, h2⟩ := h
        exact ⟨e, xs, b, n, c, hpl p e xs h1, h2⟩
      | _ =>
        rw [hgs] at h
        obtain ⟨bs', h1, h2, h3⟩ := h.plain rfl
        exact .of h1 h2 fun b hm => hO b _ (h3 b hm) (by simp)
theorem Sim.adoptAll : ∀ {args : List AV} {vs : List Value} {bs : List Nat} {k : Nat} {env : Env} {O : Nat → Option Loc}, Sim P X env H a w I μ O → ARepAll P w I μ args vs bs → bs.Nodup → (∀ b ∈ bs, O b = some .r) →
    (∀ t, k ≤ t → get env t = .un) → (∀ j v, vs[j]? = some v → a.tmps.getD (k + j) undef = v) → ∃ O', Sim P X (argsE k args env) H a w I μ O' := by
  intro args
  induction args with
  | nil => intro vs bs k env O hs _ _ _ _ _; exact ⟨O, hs⟩
  | cons c cs ih =>
    intro vs bs k env O hs h hn hb he hv
    cases h with
    | @cons _ v _ vs b1 b2 h t =>
      have hnd := List.nodup_append.1 hn
      have e0 : a.tmps.getD k undef = v := by have := hv 0 v rfl; simpa using this
      have h1 := hs.adopt (t := k) (by rw [e0]; exact h) hnd.1 (fun b hm => hb b (by simp [hm])) (by rw [he k (Nat.le_refl _)]; rfl)
      refine ih h1 t hnd.2.1 (fun b hm => ?_) (fun s hs' => ?_) fun j u hj => ?_
      · rw [if_neg fun hm' => hnd.2.2 b hm' b hm rfl]; exact hb b (by simp [hm])
      · simp only [get]
        rw [if_neg (by omega)]; exact he s (by omega)
      · have := hv (j + 1) u (by simpa using hj)
        rw [← this]; congr 1; omega

/-- How a function that is handed such ends. -/
def retG (rs : List ResultVar) (r : AV) (args' : List AV) (H' : Heap) : Exit → Env → Heap → Prop
  | .normal, env, H => (∃ G, H = H' ++ G) ∧ resOK env r rs ∧ (∀ (i : Nat) c, args'[i]? = some c → get env i = c ∧ isRef c = false ∧ .tmp i ∉ rs)
  | .ret, env, H => (∃ G, H = H' ++ G) ∧ resOK env r rs ∧ (∀ (i : Nat) c, args'[i]? = some c → get env i = c ∧ isRef c = false ∧ .tmp i ∉ rs)
  | _, _, _ => False

theorem Sim.gives (hs : Sim P X env H a w I μ O) {fn : Func} {rs : List ResultVar} (hrs : fn.results = rs.toArray) {r : AV} (h : resOK env r rs) :
    ∃ v bs, (Go.results fn a.tmps).run P w = .ok v w ∧ ARep P w I μ r v bs ∧ bs.Nodup ∧ ∀ b ∈ bs, ∃ t, O b = some (.t t) ∧ .tmp t ∈ rs := by
  have one : ∀ t, isRef (get env t) = false → ∃ bs, ARep P w I μ (get env t) (a.tmps.getD t undef) bs ∧ bs.Nodup ∧ ∀ b ∈ bs, O b = some (.t t) := fun t ht => (hs.envr t).plain ht
  have dis : ∀ {t u : Nat} {b1 b2 : List Nat}, t ≠ u → (∀ b ∈ b1, O b = some (.t t)) → (∀ b ∈ b2, O b = some (.t u)) → ∀ x ∈ b1, ∀ y ∈ b2, x ≠ y := by
    intro t u b1 b2 h h1 h2 x hx y hy e
    have := h1 x hx; rw [e, h2 y hy] at this; simp at this; exact h this.symm
  unfold resOK at h
  split at h
  · subst h
    exact ⟨_, [], results_none (by rw [hrs]) _ _ _, .tup .nil, List.nodup_nil, by simp⟩
  · obtain ⟨rfl, h2⟩ := h
    obtain ⟨bs, k1, k2, k3⟩ := one _ h2
    exact ⟨_, bs, results_tmp (by rw [hrs]) _ _ _, k1, k2, fun b hb => ⟨_, k3 b hb, by simp⟩⟩
  · obtain ⟨hne, rfl, h2, h3⟩ := h
    obtain ⟨b1, k1, k2, k3⟩ := one _ h2
    obtain ⟨b2, m1, m2, m3⟩ := one _ h3
    refine ⟨_, _, results_tmp2 (by rw [hrs]) _ _ _, .tup (.cons k1 (.cons m1 .nil)), ?_, ?_⟩
    · simp only [List.append_nil]
      exact List.nodup_append.2 ⟨k2, m2, dis hne k3 m3⟩
    · intro b hb
      simp only [List.append_nil, List.mem_append] at hb
      rcases hb with hb | hb
      · exact ⟨_, k3 b hb, by simp⟩
      · exact ⟨_, m3 b hb, by simp⟩
  · obtain ⟨⟨n1, n2, n3⟩, rfl, h2, h3, h4⟩ := h
    obtain ⟨b1, k1, k2, k3⟩ := one _ h2
    obtain ⟨b2, m1, m2, m3⟩ := one _ h3
    obtain ⟨b3, p1, p2, p3⟩ := one _ h4
    refine ⟨_, _, results_tmp3 (by rw [hrs]) _ _ _, .tup (.cons k1 (.cons m1 (.cons p1 .nil))), ?_, ?_⟩
    · simp only [List.append_nil]
      refine List.nodup_append.2 ⟨k2, List.nodup_append.2 ⟨m2, p2, dis n3 m3 p3⟩, fun x hx y hy => ?_⟩
      rcases List.mem_append.1 hy with hy | hy
      · exact dis n1 k3 m3 x hx y hy
      · exact dis n2 k3 p3 x hx y hy
    · intro b hb
      simp only [List.append_nil, List.mem_append] at hb
      rcases hb with hb | hb | hb
      · exact ⟨_, k3 b hb, by simp⟩
      · exact ⟨_, m3 b hb, by simp⟩
      · exact ⟨_, p3 b hb, by simp⟩
  · exact h.elim
/-- What the first temporaries hold. -/
theorem Sim.firsts (hs : Sim P X env H a w I μ O) (rs : List ResultVar) : ∀ {cs : List AV} {vs : List Value} (k : Nat), (∀ (i : Nat) c, cs[i]? = some c → get env (k + i) = c ∧ isRef c = false ∧ .tmp (k + i) ∉ rs) → (∀ (i : Nat), i < cs.length → vs[i]? = some (a.tmps.getD (k + i) undef)) →
    ∃ bs, ARepAll P w I μ cs (vs.take cs.length) bs ∧ bs.Nodup ∧ ∀ b ∈ bs, ∃ t, k ≤ t ∧ O b = some (.t t) ∧ .tmp t ∉ rs := by
  intro cs
  induction cs with
  | nil => intro vs k _ _; exact ⟨[], by simpa using ARepAll.nil, List.nodup_nil, by simp⟩
  | cons c cs ih =>
    intro vs k hc hv
    cases vs with
    | nil => have := hv 0 (by simp); simp at this
    | cons v vs =>
      have h0 := hv 0 (by simp)
      simp only [List.getElem?_cons_zero, Option.some.injEq, Nat.add_zero] at h0
      obtain ⟨q1, q2, q3⟩ := hc 0 c rfl
      simp only [Nat.add_zero] at q1 q3
      obtain ⟨b1, k1, k2, k3⟩ := (hs.envr k).plain (by rw [q1]; exact q2)
      rw [q1] at k1
      obtain ⟨b2, m1, m2, m3⟩ := ih (vs := vs) (k + 1) (fun i c' hi => by have := hc (i + 1) c' (by simpa using hi); rwa [show k + (i + 1) = k + 1 + i by omega] at this)
        (fun i hi => by have := hv (i + 1) (by simp; omega); rw [show k + (i + 1) = k + 1 + i by omega] at this; simpa using this)
      refine ⟨b1 ++ b2, ?_, ?_, fun b hb => ?_⟩
      · simp only [List.length_cons, List.take_succ_cons]
        rw [h0]; exact .cons k1 m1
      · refine List.nodup_append.2 ⟨k2, m2, fun x hx y hy e => ?_⟩
        subst e
        obtain ⟨t, h1, h2, _⟩ := m3 x hy
        have := k3 x hx
        rw [h2] at this; simp at this; omega
      · rcases List.mem_append.1 hb with hb | hb
        · exact ⟨k, Nat.le_refl _, k3 b hb, q3⟩
        · obtain ⟨t, h1, h2⟩ := m3 b hb
          exact ⟨t, by omega, h2⟩

theorem FnG.of {f : FuncId} {fn : Func} {c : Code} {args args' : List AV} {r : AV} {rs : List ResultVar} (lo nt : Nat) (hf : P.funcs[f]? = some fn) (hb : fn.body = some c) (hrs : fn.results = rs.toArray) (hnt : fn.ntmps = nt) (hn : args.length ≤ nt) (hlo : args'.length ≤ lo)
    (hlo' : lo ≤ args.length) (h : AW P { nt := (lo, nt), n0 := 0, ne := H.length } c (retG rs r args' H') (argsE 0 args []) H) : FnG P f args H r args' H' := by
  intro X w I μ O vs bs e1 e2 e3 e4 e5 hm ha hnd hbO
  refine callsIn_of_wp hf hb trivial ?_
  have hlen := ha.length
  let a : Act := { tmps := vs.toArray ++ Array.replicate (fn.ntmps - vs.toArray.size) undef, defers := [] }
  let Y : Snap := { X with nt := (lo, nt), dfs := [], args := vs }
  have hat : ∀ (j : Nat) (v : Value), vs[j]? = some v → a.tmps.getD j undef = v := fun j v hj => by
    have hjl : j < vs.length := (List.getElem?_eq_some_iff.1 hj).1
    have e2 : (vs.toArray ++ Array.replicate (fn.ntmps - vs.length) undef)[j]? = some v := by
      rw [Array.getElem?_append_left (by simpa using hjl)]; simpa using hj
    simp [a, e2]
  have hs0 : Sim P Y [] H a w I μ O := by
    refine ⟨hm.cast rfl rfl rfl rfl rfl rfl, fun t => .un, by simp [a, Y, hnt]; omega, rfl, fun t ht => ?_⟩
    have htl : t < vs.length := by simp only [Y] at ht; omega
    rw [hat t vs[t] (List.getElem?_eq_getElem htl)]
    simp [Y, List.getD_eq_getElem?_getD, htl]
  obtain ⟨O1, hs⟩ := hs0.adoptAll (k := 0) ha hnd hbO (fun _ _ => rfl) fun j v hj => by rw [Nat.zero_add]; exact hat j v hj
  have hw := h Y a w I μ O1 rfl e3 e4 hs
  refine wpIn_mono hw fun e a' w' hp => ?_
  obtain ⟨env', He, I', μ', O', s, q⟩ := hp
  have fin : ((∃ G, He = H' ++ G) ∧ resOK env' r rs ∧ (∀ (i : Nat) c, args'[i]? = some c → get env' i = c ∧ isRef c = false ∧ .tmp i ∉ rs)) → a'.defers = [] ∧ ∃ v, (results fn a'.tmps).run P w' = .ok v w' ∧
      ∃ v' I' μ' O' G rs bs', Ending.returned v = .returned v' ∧ Mem P X (H' ++ G) w' I' μ' O' ∧ ARep P w' I' μ' r v' rs ∧ ARepAll P w' I' μ' args' (vs.take args'.length) bs' ∧ (rs ++ bs').Nodup ∧ ∀ b ∈ rs ++ bs', ∃ n, O' b = some (.t n) := by
    rintro ⟨⟨G, rfl⟩, hres, hargs⟩
    obtain ⟨v, b1, h1, h2, h3, h4⟩ := s.gives hrs hres
    obtain ⟨b2, k1, k2, k3⟩ := s.firsts rs (cs := args') (vs := vs) 0 (fun i c hi => by rw [Nat.zero_add]; exact hargs i c hi) fun i hi => by
      have htl : i < vs.length := by omega
      rw [Nat.zero_add, s.dfs.2 i (by simp only [Y]; omega)]
      simp [Y, List.getD_eq_getElem?_getD, htl]
    refine ⟨s.dfs.1, v, h1, v, I', μ', O', G, b1, b2, rfl, s.toMem.cast rfl rfl rfl rfl rfl rfl, h2, k1, ?_, fun b hb => ?_⟩
    · refine List.nodup_append.2 ⟨h3, k2, fun x hx y hy e => ?_⟩
      subst e
      obtain ⟨t, g1, g2⟩ := h4 x hx
      obtain ⟨t', _, g3, g4⟩ := k3 x hy
      rw [g1] at g3; simp at g3; subst g3
      exact g4 g2
    · rcases List.mem_append.1 hb with hb | hb
      · obtain ⟨t, g1, _⟩ := h4 b hb; exact ⟨t, g1⟩
      · obtain ⟨t, _, g1, _⟩ := k3 b hb; exact ⟨t, g1⟩
  cases e with
  | normal => exact fin q
  | ret => exact fin q
  | _ => exact q.elim
end
end Go.FL
/-
  A FUNCTIONAL LOGIC, 22: calls of functions that are handed pointers to boxes, or a slice of the caller's own.
-/
namespace Go.FL
open Go Go.RowKit

def isCellRef : AV → Bool
  | .ref (.c _ _) _ _ => true
  | .ep (.c _ _) _ _ => true
  | _ => false
def cellRefs (env : Env) : Bool := env.any fun x => isCellRef x.2
/-- Values that own nothing and look at nothing. -/
def argsA (env : Env) : List Operand → Option (List AV)
  | [] => some []
  | x :: xs => match argsA env xs with
    | some vs => if noOwn (lk env x) && !isRef (lk env x) then some (lk env x :: vs) else none
    | none => none

section
variable {P : Program} {C : Cx} {X : Snap} {o : Oper} {ops : Array Oper} {Q : Exit → Env → Heap → Prop} {env env' : Env} {H H' : Heap} {a : Act} {w w' : World} {I I' : Nat → Prop} {μ μ' : List Nat} {O O' : Nat → Option Loc}
  {K : Env → Heap → Prop} {k : Nat} {l : List Oper}

theorem cellRefs_get (h : cellRefs env = false) (t : Nat) : (∀ id off x y, get env t ≠ .ref (.c id off) x y) ∧ ∀ id off x y, get env t ≠ .ep (.c id off) x y := by
  constructor <;> intro id off x y hg
  · have := get_mem hg (by simp)
    have h2 : cellRefs env = true := List.any_eq_true.2 ⟨_, this, rfl⟩
    rw [h] at h2; cases h2
  · have := get_mem hg (by simp)
    have h2 : cellRefs env = true := List.any_eq_true.2 ⟨_, this, rfl⟩
    rw [h] at h2; cases h2

/-- Over a call: what is the frame's own stays; objects may be written. -/
theorem Sim.over (hs : Sim P X env H a w I μ O) (hn0 : X.n0 = 0) (hc : cellRefs env = false) (bs : List Nat) (hb : ∀ b ∈ bs, O b = some .r) :
    ∃ (Y : Snap) (O2 : Nat → Option Loc), Y.w = w ∧ Y.I = I ∧ Y.n0 = 0 ∧ Y.ne = H.length ∧ Y.μ = μ ∧ Mem P Y H w I μ O2 ∧ (∀ b ∈ bs, O2 b = some .r) ∧
      ∀ {w' : World} {I' : Nat → Prop} {μ' : List Nat} {O' : Nat → Option Loc} {Hn : Heap} {rs : List Nat}, Mem P Y Hn w' I' μ' O' → (∀ b ∈ rs, ∃ n, O' b = some (.t n)) → ∃ On, Sim P X env Hn a w' I' μ' On ∧ ∀ b ∈ rs, On b = some .r := by
  let Y : Snap := { X with w := w, I := I, n0 := 0, ne := H.length, μ := μ, K := fun b => X.K b ∨ I b ∨ ∃ t, O b = some (.t t) }
  let O2 : Nat → Option Loc := fun b => if b ∈ bs then some .r else match O b with
    | some (.o id) => some (.o id)
    | _ => none
  have hO2o : ∀ b id, O b = some (.o id) → O2 b = some (.o id) := fun b id h => by
    show (if b ∈ bs then _ else _) = _
    rw [if_neg fun hm => by rw [hb b hm] at h; cases h]; simp only [h]
  have hO2n : ∀ b, b ∉ bs → (∀ id, O b ≠ some (.o id)) → O2 b = none := fun b h1 h2 => by
    show (if b ∈ bs then _ else _) = _
    rw [if_neg h1]
    split
    · rename_i id hx; exact absurd hx (h2 id)
    · rfl
  have hO2 : ∀ b l, O2 b = some l → ∃ l', O b = some l' := fun b l h => by
    by_cases hm : b ∈ bs
    · exact ⟨_, hb b hm⟩
    · cases hx : O b with
      | some l' => exact ⟨l', rfl⟩
      | none => rw [hO2n b hm (by rw [hx]; simp)] at h; cases h
  have hKO : ∀ b, Y.K b → (∀ id, O b ≠ some (.o id)) ∧ b ∉ bs := fun b hk => by
    rcases hk with hk | hk | ⟨t, hk⟩
    · exact ⟨fun id h => (by rw [hs.kO b hk] at h; cases h), fun hm => by have := hb b hm; rw [hs.kO b hk] at this; cases this⟩
    · exact ⟨fun id h => (hs.own b _ h).2 hk, fun hm => (hs.own b _ (hb b hm)).2 hk⟩
    · exact ⟨fun id h => (by rw [hk] at h; simp at h), fun hm => by have := hb b hm; rw [hk] at this; simp at this⟩
  have hmem : Mem P Y H w I μ O2 := {
    prot := fun _ _ => rfl
    kO := fun b hk => hO2n b (hKO b hk).2 (hKO b hk).1
    kI := fun _ _ h => h
    mono := fun _ h => h
    os := rfl, tape := rfl, output := rfl, size := Nat.le_refl _
    own := fun b l h => by obtain ⟨l', h'⟩ := hO2 b l h; exact hs.own b l' h'
    ilt := hs.ilt, μlen := hs.μlen, μpre := fun _ _ _ h => h, nle := Nat.le_refl _
    heap := fun id o' ho' => by
      obtain ⟨blk, ds, h1, h2, h3, _⟩ := hs.heap id o' ho'
      exact ⟨blk, ds, h1, h2, fun _ => ⟨(h3 (by omega)).1, fun b hb' => hO2o b id ((h3 (by omega)).2 b hb')⟩, fun h => absurd h (by simp [Y])⟩
    klt := fun b hk => by
      rcases hk with hk | hk | ⟨t, hk⟩
      · exact Nat.lt_of_lt_of_le (hs.klt b hk) hs.size
      · exact hs.ilt b hk
      · exact (hs.own b _ hk).1
    n0le := Nat.zero_le _ }
  refine ⟨Y, O2, rfl, rfl, rfl, rfl, rfl, hmem, fun b hm => by show (if b ∈ bs then _ else _) = _; rw [if_pos hm], ?_⟩
  intro w' I' μ' O' Hn rs hm hrs
  let On : Nat → Option Loc := fun b => if b ∈ rs then some .r else match O' b with
    | some (.o id) => some (.o id)
    | _ => match O b with
      | some (.t t) => some (.t t)
      | _ => none
  have hOt : ∀ b t, O b = some (.t t) → On b = some (.t t) ∧ w'.heap[b]? = w.heap[b]? := fun b t h => by
    have hk : Y.K b := .inr (.inr ⟨t, h⟩)
    have h0 := hm.kO b hk
    refine ⟨?_, hm.prot b hk⟩
    show (if b ∈ rs then _ else _) = _
    rw [if_neg fun hx => by obtain ⟨n, hn⟩ := hrs b hx; rw [h0] at hn; cases hn]
    simp only [h0, h]
  have hOo : ∀ b id, O' b = some (.o id) → On b = some (.o id) := fun b id h => by
    show (if b ∈ rs then _ else _) = _
    rw [if_neg fun hx => by obtain ⟨n, hn⟩ := hrs b hx; rw [h] at hn; simp at hn]
    simp only [h]
  have hII : ∀ b, I b → w'.heap[b]? = w.heap[b]? := fun b hi => hm.prot b (.inr (.inl hi))
  have hμ : ∀ (i b : Nat), μ[i]? = some b → μ'[i]? = some b := fun i b h => hm.μpre i b (by have := (List.getElem?_eq_some_iff.1 h).1; have := hs.μlen; simp only [Y]; omega) h
  refine ⟨On, ⟨{
    prot := fun b hk => (hm.prot b (.inl hk)).trans (hs.prot b hk)
    kO := fun b hk => by
      have h0 := hm.kO b (.inl hk)
      show (if b ∈ rs then _ else _) = _
      rw [if_neg fun hx => by obtain ⟨n, hn⟩ := hrs b hx; rw [h0] at hn; cases hn]
      simp only [h0, hs.kO b hk]
    kI := fun b hk hi => hs.kI b hk (hm.kI b (.inl hk) hi)
    mono := fun b hi => hm.mono b (hs.mono b hi)
    os := hm.os.trans hs.os, tape := hm.tape.trans hs.tape, output := hm.output.trans hs.output, size := Nat.le_trans hs.size hm.size
    own := fun b l hl => by
      by_cases hx : b ∈ rs
      · obtain ⟨n, hn⟩ := hrs b hx
        exact hm.own b _ hn
      · have hl' : (match O' b with
          | some (.o id) => some (Loc.o id)
          | _ => match O b with
            | some (.t t) => some (.t t)
            | _ => none) = some l := by
          have : (if b ∈ rs then some Loc.r else _) = some l := hl
          rwa [if_neg hx] at this
        split at hl'
        · rename_i id h; exact hm.own b _ h
        · split at hl'
          · rename_i t h
            refine ⟨Nat.lt_of_lt_of_le (hs.own b _ h).1 hm.size, fun hi => (hs.own b _ h).2 (hm.kI b (.inr (.inr ⟨t, h⟩)) hi)⟩
          · cases hl'
    ilt := hm.ilt, μlen := hm.μlen
    μpre := fun i b hi h => hμ i b (hs.μpre i b hi h)
    nle := Nat.le_trans hs.nle hm.nle
    heap := fun id o' ho' => by
      obtain ⟨blk, ds, h1, h2, h3, _⟩ := hm.heap id o' ho'
      exact ⟨blk, ds, h1, h2, fun _ => ⟨(h3 (Nat.zero_le _)).1, fun b hb' => hOo b id ((h3 (Nat.zero_le _)).2 b hb')⟩, fun h => by omega⟩
    klt := hs.klt, n0le := hs.n0le }, fun t => ?_, hs.nt, hs.dfs⟩, fun b hx => by show (if b ∈ rs then _ else _) = _; rw [if_pos hx]⟩
  have ht := hs.envr t
  obtain ⟨c1, c2⟩ := cellRefs_get hc t
  cases hg : get env t with
  | ref p off len =>
    rw [hg] at ht
    obtain ⟨e, xs, A, n, c, g1, g2, g3⟩ := ht
    cases p with
    | t q => exact ⟨e, xs, A, n, c, g1, g2, g3⟩
    | c id off' => exact absurd hg (c1 _ _ _ _)
  | ep p i j =>
    rw [hg] at ht
    obtain ⟨e, xs, b, n, c, g1, g2, g3⟩ := ht
    cases p with
    | t q => exact ⟨e, xs, b, n, c, g1, g2, g3⟩
    | c id off' => exact absurd hg (c2 _ _ _ _)
  | _ =>
    rw [hg] at ht
    obtain ⟨ds, g1, g2, g3⟩ := ht.plain rfl
    exact .of (g1.keep hm.mono hII hμ fun b hb' => (hOt b t (g3 b hb')).2) g2 fun b hb' => (hOt b t (g3 b hb')).1

theorem Sim.argsA (hs : Sim P X env H a w I μ O) : ∀ {xs : List Operand} {avs : List AV}, Go.FL.argsA env xs = some avs → ARepAll P w I μ avs (xs.map a.eval) [] := by
  intro xs
  induction xs with
  | nil => intro avs h; simp [Go.FL.argsA] at h; subst h; exact .nil
  | cons x xs ih =>
    intro avs h
    simp only [Go.FL.argsA] at h
    split at h
    · rename_i vs h1
      split at h
      · rename_i h2
        simp only [Bool.and_eq_true, Bool.not_eq_true'] at h2
        simp only [Option.some.injEq] at h
        subst h
        obtain ⟨b1, hb1⟩ := hs.lk h2.2
        have := noOwn_bs hb1 h2.1
        subst this
        exact .cons hb1 (ih h1)
      · cases h
    · cases h

theorem exec_call {c : Call} {f : FuncId} (ho : o.op = .call c) (hc : c.callee = .value (.func f)) (hcall : ∀ args w, (callFunc f args).run P w = .ok (.enter f args) w) :
    (execOp a.eval o).run P w = .ok (.enter f (c.args.toList.map a.eval).toArray) w := by
  have hres : (resolve a.eval c o.type).run P w = .ok { target := .fn (.func f) #[], args := #[] ++ c.args.map a.eval } w := run_resolve_value hc rfl
  simp only [execOp, ho, Sem.run_bind, hres, Result.andThen_ok, invoke, hcall]
  congr 2
  apply Array.ext'; simp

/-- Nothing of the call's own is handed on. -/
theorem OpOK.callG {c : Call} {f : FuncId} {avs : List AV} {r : AV} (ho : o.op = .call c) (hc : c.callee = .value (.func f)) (ha : argsA env c.args.toList = some avs) (hcr : cellRefs env = false) (hn0 : C.n0 = 0)
    (hcall : ∀ args w, (callFunc f args).run P w = .ok (.enter f args) w) (hfn : FnG P f avs H r [] H') (hd : ∀ t, o.dst = some t → okT C.nt t)
    (hK : ∀ G, K (match o.dst with | some t => put env t r | none => env) (H' ++ G)) : OpOK P C o env H K := by
  intro X a w I μ O next Q h1 h2 h3 hs hn
  refine ⟨fun _ _ => trivial, ?_⟩
  rw [Oper.semAt_eq _ _ _ (by simp [ho]), exec_call ho hc hcall, Oper.uponIn_enter]
  refine ⟨fun h => (by simp [om] at h), ?_⟩
  obtain ⟨Y, O2, y1, y2, y3, y4, y5, ym, _, yk⟩ := hs.over (by omega) hcr [] (by simp)
  have hcl := hfn Y w I μ O2 _ [] y1 y2 y3 y4 y5 ym (hs.argsA ha) List.nodup_nil (by simp)
  refine ⟨trivial, fun csF hroom => ?_⟩
  obtain ⟨e, w', fr, ⟨v, I', μ', O', G, rs, bs', rfl, q1, q2, _, q4, q5⟩, s, x⟩ := hcl.2 csF (room_wide _)
  refine ⟨.returned v, w', fr, ?_, s, x⟩
  obtain ⟨On, k1, k2⟩ := yk q1 (rs := rs) fun b hb => q5 b (by simp [hb])
  have hh : Hand P w' I' μ' On r v := ⟨rs, q2, (List.nodup_append.1 q4).1, k2⟩
  show next (a.put o.dst v) w'
  have hK := hK G
  cases hdst : o.dst with
  | none => exact hn _ _ _ _ _ _ _ k1 (by rw [hdst] at hK; exact hK)
  | some t => exact hn _ _ _ _ _ _ _ (k1.put_hand (by rw [h1]; exact hd t hdst) hh) (by rw [hdst] at hK; exact hK)
/-- A slice of the call's own is handed on; what it reads then. -/
theorem OpOK.callG1 {c : Call} {f : FuncId} {avs : List AV} {r : AV} {s t0 : Nat} {xa : List Operand} {e : TypeId} {xs xs' : List DV} (ho : o.op = .call c) (hc : c.callee = .value (.func f)) (hx : c.args.toList = .tmp s :: xa) (hv : get env s = .ref (.t t0) 0 xs.length) (hp : get env t0 = .own e xs)
    (ha : argsA (put env t0 .un) xa = some avs) (hcr : cellRefs (put env t0 .un) = false) (hn0 : C.n0 = 0)
    (hcall : ∀ args w, (callFunc f args).run P w = .ok (.enter f args) w) (hfn : FnG P f (.own e xs :: avs) H r [.own e xs'] H') (hd : ∀ t, o.dst = some t → okT C.nt t)
    (hK : ∀ G, K (match o.dst with | some t => put ((t0, .own e xs') :: put env t0 .un) t r | none => (t0, .own e xs') :: put env t0 .un) (H' ++ G)) : OpOK P C o env H K := by
  intro X a w I μ O next Q h1 h2 h3 hs hn
  refine ⟨fun _ _ => trivial, ?_⟩
  rw [Oper.semAt_eq _ _ _ (by simp [ho]), exec_call ho hc hcall, Oper.uponIn_enter]
  refine ⟨fun h => (by simp [om] at h), ?_⟩
  have hrs := hs.envr s
  rw [hv] at hrs
  obtain ⟨e', ys, A, n, cc, g1, g2, g3, A', c', p1, p2, p3, p4⟩ := hrs
  have hee : AV.own e xs = .own e' ys := hp.symm.trans g1
  cases hee
  obtain ⟨rfl, rfl⟩ := p3 rfl
  simp only [plVal, Option.some.injEq] at g2
  obtain ⟨k1, bs, k2, k3, k4⟩ := hs.take t0 (by rw [hp]; rfl)
  rw [hp, g2] at k2
  have hnl : n = xs.length := (own_cap k2).1
  subst hnl
  have hval : a.eval (.tmp s) = a.tmps.getD t0 undef := by rw [g2]; exact p1
  obtain ⟨Y, O2, y1, y2, y3, y4, y5, ym, yb, yk⟩ := k1.over (by omega) hcr bs k4
  have hargs : ARepAll P w I μ (.own e xs :: avs) (c.args.toList.map a.eval) bs := by
    rw [hx, List.map_cons, hval, g2]
    have := ARepAll.cons k2 (k1.argsA ha)
    simpa using this
  have hcl := hfn Y w I μ O2 _ bs y1 y2 y3 y4 y5 ym hargs k3 yb
  refine ⟨trivial, fun csF hroom => ?_⟩
  obtain ⟨e', w', fr, ⟨v, I', μ', O', G, rs, bs', rfl, q1, q2, q3, q4, q5⟩, s', x⟩ := hcl.2 csF (room_wide _)
  refine ⟨.returned v, w', fr, ?_, s', x⟩
  obtain ⟨On, m1, m2⟩ := yk q1 (rs := rs ++ bs') q5
  obtain ⟨n1, n2, n3⟩ := List.nodup_append.1 q4
  have hq3 : ARep P w' I' μ' (.own e xs') (a.tmps.getD t0 undef) bs' := by
    rw [hx, List.map_cons, hval] at q3
    simp only [List.length_cons, List.length_nil, Nat.zero_add, List.take_succ_cons, List.take_zero] at q3
    cases q3 with
    | cons h t => cases t; simpa using h
  have j1 := m1.adopt hq3 n2 (fun b hb => m2 b (by simp [hb])) (by simp [put, get, isOwn])
  have hh : Hand P w' I' μ' (fun b => if b ∈ bs' then some (.t t0) else On b) r v := ⟨rs, q2, n1, fun b hb => by show (if b ∈ bs' then _ else _) = _; rw [if_neg fun hm => n3 b hb b hm rfl]; exact m2 b (by simp [hb])⟩
  show next (a.put o.dst v) w'
  have hK := hK G
  cases hdst : o.dst with
  | none => exact hn _ _ _ _ _ _ _ j1 (by rw [hdst] at hK; exact hK)
  | some t => exact hn _ _ _ _ _ _ _ (j1.put_hand (by rw [h1]; exact hd t hdst) hh) (by rw [hdst] at hK; exact hK)
end
end Go.FL
/-
  A FUNCTIONAL LOGIC, 23: regions whose order is drawn, in which a store does not wait for all that is only read.
-/
namespace Go.FL
open Go Go.RowKit

section
variable {P : Program} {C : Cx} {X : Snap} {o : Oper} {ops : Array Oper} {Q : Exit → Env → Heap → Prop} {env env' envi : Env} {H H' H1 : Heap} {a : Act} {w w' : World} {I I' : Nat → Prop} {μ μ' : List Nat} {O O' : Nat → Option Loc}
  {K : Env → Heap → Prop} {k : Nat} {l : List Oper} {av : AV}

/-- One of the operations that only read, whenever it comes up. -/
theorem pureStep {m : Nat} {env0 : Env} {tv : List (Nat × AV)} (hdr : ∀ (i : Nat) o, i < m → ops[i]? = some o → ∀ j, j < m → ∃ oj t, ops[j]? = some oj ∧ oj.dst = some t ∧ (t ∈ o.looksAt ops → j < i ∧ direct ops i j = true)) (hlen : tv.length = m) (hle : m ≤ ops.size)
    (hone : ∀ i, i < m → ∃ o t v, ops[i]? = some o ∧ tv[i]? = some (t, v) ∧ DOne P C ops H env0 (tv.take i).reverse o t v) (hdist : ∀ (i j t : Nat) v u, tv[i]? = some (t, v) → tv[j]? = some (t, u) → i = j)
    (n1 : X.nt = C.nt) (n2 : X.n0 = C.n0) (n3 : X.ne = C.ne) {L : Array Bool} (hL : L.size = ops.size) {i : Nat} (him : i < m) (hi : i ∈ Region.ready .any ops L) {QQ : Exit → Act → World → Prop} {N : Act → World → Prop}
    (hs : Sim P X (envL tv env0 L) H a w I μ O) (hN : ∀ a' w' I' O', Sim P X (envL tv env0 (L.setIfInBounds i true)) H a' w' I' μ O' → N a' w') : wpOpIn (om C.ro) 0 P ops QQ i N a w := by
  obtain ⟨h1, o, ho, h2⟩ := mem_ready.1 hi
  have hlt := (Array.getElem?_eq_some_iff.1 ho).1
  rw [listed_def (by omega)] at h1
  obtain ⟨o', t, v, ho', htv, hd, htn, h0t, hnt, hself, hrk, hrun⟩ := hone i him
  rw [ho] at ho'; cases ho'
  -- what it looks at is known
  have hdir : ∀ (j s : Nat) u, tv[j]? = some (s, u) → s ∈ o.looksAt ops → L.getD j false = true := fun j s u hj hm => by
    have hjm : j < m := by have := (List.getElem?_eq_some_iff.1 hj).1; omega
    obtain ⟨oj, tj, q1, q2, q3⟩ := hdr i o him ho j hjm
    obtain ⟨oj', tj', vj', r1, r2, r3⟩ := hone j hjm
    rw [q1] at r1; cases r1
    rw [hj] at r2; cases r2
    have : tj = s := by have := r3.1; rw [q2] at this; exact Option.some.inj this
    subst this
    obtain ⟨o2, ho2, e, he, hb, rfl⟩ := direct_spec (q3 hm).2
    rw [ho] at ho2; cases ho2
    exact h2 e he hb
  have hle1 : ∀ s, get (pickE (o.looksAt ops) (tv.take i).reverse ++ env0) s = .un ∨ get (pickE (o.looksAt ops) (tv.take i).reverse ++ env0) s = get (envL tv env0 L) s := fun s => by
    rw [get_append]
    split
    · rename_i hc
      obtain ⟨x, hx, rfl⟩ := List.mem_map.1 (List.contains_iff_mem.1 hc)
      have hx' := List.mem_filter.1 hx
      have hin := List.mem_reverse.1 hx'.1
      obtain ⟨j, hj⟩ := List.getElem?_of_mem (List.mem_of_mem_take hin)
      have hlk : x.1 ∈ o.looksAt ops := List.contains_iff_mem.1 hx'.2
      refine .inr ?_
      rw [getL_some hdist (hdir j x.1 x.2 hj hlk) hj]
      refine get_unique hx fun u hu => ?_
      have hu' := List.mem_reverse.1 (List.mem_filter.1 hu).1
      obtain ⟨j', hj'⟩ := List.getElem?_of_mem (List.mem_of_mem_take hu')
      have := hdist j j' x.1 x.2 u hj hj'
      subst this
      rw [hj] at hj'
      simp only [Option.some.injEq] at hj'
      rw [hj']
    · by_cases hex : ∃ (j : Nat) (u : AV), tv[j]? = some (s, u)
      · obtain ⟨j, u, hj⟩ := hex
        have hjm : j < m := by have := (List.getElem?_eq_some_iff.1 hj).1; omega
        obtain ⟨oj, tj, vj, _, r2, r3⟩ := hone j hjm
        rw [hj] at r2; cases r2
        exact .inl r3.2.2.1
      · exact .inr (getL_none fun j u _ hj => hex ⟨j, u, hj⟩).symm
  have hkn : ∀ s, isOwn (get (pickE (o.looksAt ops) (tv.take i).reverse ++ env0) s) = true → get (pickE (o.looksAt ops) (tv.take i).reverse ++ env0) s = get (envL tv env0 L) s := fun s hs => by
    rcases hle1 s with h | h
    · rw [h] at hs; cases hs
    · exact h
  have hle2 : ∀ s q off len, get (pickE (o.looksAt ops) (tv.take i).reverse ++ env0) s = .ref (.t q) off len → get (pickE (o.looksAt ops) (tv.take i).reverse ++ env0) q = get (envL tv env0 L) q := fun s q off len h => by
    have := List.all_eq_true.1 hrk _ (get_mem h (by simp))
    exact hkn q (by simpa using this)
  have hle3 : ∀ s q x y, get (pickE (o.looksAt ops) (tv.take i).reverse ++ env0) s = .ep (.t q) x y → get (pickE (o.looksAt ops) (tv.take i).reverse ++ env0) q = get (envL tv env0 L) q := fun s q x y h => by
    have := List.all_eq_true.1 hrk _ (get_mem h (by simp))
    exact hkn q (by simpa using this)
  have htL : get (envL tv env0 L) t = .un := by
    rw [getL_none fun j u hl hj => by
      have := hdist i j t v u htv hj
      subst this; rw [h1] at hl; cases hl]
    exact h0t
  have hsi := hs.less hle1 hle2 hle3
  have hnext : ∀ a' w' I' O', Sim P X ((t, v) :: envL tv env0 L) H a' w' I' μ O' → N a' w' := fun a' w' I' O' hs' => by
    refine hN a' w' I' O' (hs'.same fun s => ?_)
    · simp only [get]
      split
      · rename_i hts; subst hts
        exact getL_some hdist (by rw [listed_set (by omega), if_pos rfl]) htv
      · rename_i hts
        by_cases hex : ∃ (j : Nat) (u : AV), L.getD j false = true ∧ tv[j]? = some (s, u)
        · obtain ⟨j, u, hj1, hj2⟩ := hex
          rw [getL_some hdist hj1 hj2]
          exact getL_some hdist (by rw [listed_set (by omega)]; split <;> first | rfl | exact hj1) hj2
        · rw [getL_none fun j u hl hj => hex ⟨j, u, hl, hj⟩]
          refine getL_none fun j u hl hj => ?_
          rw [listed_set (by omega)] at hl
          split at hl
          · rename_i hij; subst hij
            rw [htv] at hj; cases hj; exact hts rfl
          · exact hex ⟨j, u, hl, hj⟩
  unfold wpOpIn
  simp only [ho]
  rcases hrun with ⟨hg, hv⟩ | ⟨hg, rfl⟩
  · rw [if_pos (grd_wanted hsi hg)]
    refine hv.step hd htn hle1 hle2 hle3 (by rw [htL]; rfl) (fun p hp e => ?_) n1 n2 n3 hs hnext
    subst e
    rcases hp with ⟨off, len, rfl⟩ | ⟨x, y, rfl⟩ <;> simp [notSelf] at hself
  · have := grd_wanted hsi hg
    rw [if_neg (by rw [this]; simp)]
    refine ⟨fun _ _ => trivial, ?_⟩
    rw [hd]
    have hp := hs.put_un t (by rw [n1]; exact htn) undef
    rw [put_cons (by rw [htL]; rfl)] at hp
    exact hnext _ _ _ _ hp


/-- As 'drawOK'; but the operation m waits for those before it that are not of F alone; these look at nothing that the region makes. -/
def drawOKF (ops : Array Oper) (m : Nat) (F : List Nat) : Bool :=
  ((List.range ops.size).all fun i => match ops[i]? with
    | some o => o.after.all (fun e => !Region.binds .any e || decide (e.on < i)) && (match o.op with | .select .. => false | _ => true) &&
      (if i < m then (List.range m).all fun j => match ops[j]? with
          | some oj => match oj.dst with
            | some t => !(o.looksAt ops).contains t || (decide (j < i) && direct ops i j)
            | none => false
          | none => false
        else if i = m then (List.range m).all fun j => F.contains j || reach ops i i j
        else (List.range i).all fun j => reach ops i i j)
    | none => false) && decide (m < ops.size) && o_guardNone ops m
where o_guardNone (ops : Array Oper) (m : Nat) : Bool := match ops[m]? with
  | some o => o.guard.isNone
  | none => false

theorem drawOKF_at {m : Nat} {F : List Nat} (h : drawOKF ops m F = true) : m < ops.size ∧ (∃ o, ops[m]? = some o ∧ o.guard = none) ∧ ∀ (i : Nat) o, ops[i]? = some o →
    (∀ e ∈ o.after, Region.binds .any e = true → e.on < i) ∧
    (i < m → ∀ j, j < m → ∃ oj t, ops[j]? = some oj ∧ oj.dst = some t ∧ (t ∈ o.looksAt ops → j < i ∧ direct ops i j = true)) ∧ (i = m → ∀ j, j < i → j ∈ F ∨ reach ops i i j = true) ∧ (m < i → ∀ j, j < i → reach ops i i j = true) := by
  unfold drawOKF at h
  simp only [Bool.and_eq_true, decide_eq_true_eq] at h
  obtain ⟨⟨h, hm⟩, hg⟩ := h
  refine ⟨hm, ?_, fun i o ho => ?_⟩
  · unfold drawOKF.o_guardNone at hg
    split at hg
    · rename_i o ho; exact ⟨o, ho, by simpa using hg⟩
    · cases hg
  have hi : i < ops.size := (Array.getElem?_eq_some_iff.1 ho).1
  have := List.all_eq_true.1 h i (List.mem_range.2 hi)
  rw [ho] at this
  simp only [Bool.and_eq_true] at this
  obtain ⟨⟨h1, _⟩, h3⟩ := this
  refine ⟨fun e he hb => ?_, fun him j hj => ?_, fun him j hj => ?_, fun him j hj => ?_⟩
  · obtain ⟨k, hk, rfl⟩ := Array.mem_iff_getElem.1 he
    have := Array.all_eq_true.1 h1 k hk
    rw [hb] at this
    simpa using this
  · rw [if_pos him] at h3
    have := List.all_eq_true.1 h3 j (List.mem_range.2 hj)
    split at this
    · rename_i oj hoj
      split at this
      · rename_i t ht
        refine ⟨oj, t, hoj, ht, fun hm => ?_⟩
        have hc : (o.looksAt ops).contains t = true := List.contains_iff_mem.2 hm
        rw [hc] at this
        simpa using this
      · cases this
    · cases this
  · rw [if_neg (by omega), if_pos him] at h3
    have := List.all_eq_true.1 h3 j (List.mem_range.2 (by omega))
    simpa using this
  · rw [if_neg (by omega), if_neg (by omega)] at h3
    exact List.all_eq_true.1 h3 j (List.mem_range.2 hj)

/-- What an operation of F is, behind the store. -/
def FOne (P : Program) (C : Cx) (ops : Array Oper) (H1 : Heap) (env0 upd : Env) (tv : List (Nat × AV)) (i : Nat) : Prop :=
  ∃ o t v, ops[i]? = some o ∧ tv[i]? = some (t, v) ∧ o.guard = none ∧ o.dst = some t ∧ (upd.map (·.1)).contains t = false ∧ VOK P C o (upd ++ env0) H1 v

theorem get_upd (upd e e' : Env) (h : ∀ t, get e t = get e' t) (t : Nat) : get (upd ++ e) t = get (upd ++ e') t := by
  rw [get_append, get_append, h]
theorem drawP2 {m : Nat} {F : List Nat} {env0 upd : Env} {tv : List (Nat × AV)} (hok : drawOKF ops m F = true) (hlen : tv.length = m) (hone : ∀ i, i < m → ∃ o t v, ops[i]? = some o ∧ tv[i]? = some (t, v) ∧ DOne P C ops H env0 (tv.take i).reverse o t v)
    (hdist : ∀ (i j t : Nat) v u, tv[i]? = some (t, v) → tv[j]? = some (t, u) → i = j) (hF : ∀ i ∈ F, FOne P C ops H1 env0 upd tv i) (hrk : refsKnown (upd ++ env0) = true) (hsuf : RL P C ops Q (m + 1) (ops.toList.drop (m + 1)) (upd ++ (tv.reverse ++ env0)) H1)
    (n1 : X.nt = C.nt) (n2 : X.n0 = C.n0) (n3 : X.ne = C.ne) : ∀ (fuel : Nat) (L : Array Bool) (a : Act) (w : World) (I : Nat → Prop) (O : Nat → Option Loc), L.size = ops.size → Down ops L → L.getD m false = true → (∀ j, m < j → L.getD j false = false) → (∀ j, j < m → j ∉ F → L.getD j false = true) →
      (List.range m).countP (fun i => !L.getD i false) + (ops.size - (m + 1)) ≤ fuel → Sim P X (upd ++ envL tv env0 L) H1 a w I μ O → wpAnyIn (om C.ro) 0 P .any ops (Post P X Q) fuel L a w := by
  obtain ⟨hm, _, hat⟩ := drawOKF_at hok
  have fin : ∀ (fuel : Nat) (L : Array Bool) (a : Act) (w : World) (I : Nat → Prop) (O : Nat → Option Loc), L.size = ops.size → L.getD m false = true → (∀ j, m < j → L.getD j false = false) → (∀ j, j < m → L.getD j false = true) → ops.size - (m + 1) ≤ fuel →
      Sim P X (upd ++ envL tv env0 L) H1 a w I μ O → wpAnyIn (om C.ro) 0 P .any ops (Post P X Q) fuel L a w := by
    intro fuel L a w I O hL hmL hup hall hf hs
    refine drawB (m := m + 1) (fun i o ho => (hat i o ho).1) (fun i o ho hi => (hat i o ho).2.2.2 (by omega)) (ops.size - (m + 1)) (m + 1) fuel L a w (Nat.le_refl _) (by omega) hf hL (fun j hj => ⟨fun h => ?_, fun h => ?_⟩) ?_
    · rcases Nat.lt_or_ge m j with hx | hx
      · rw [hup j hx] at h; cases h
      · omega
    · rcases Nat.lt_or_ge j m with hx | hx
      · exact hall j hx
      · have : j = m := by omega
        subst this; exact hmL
    have hs' := hs.same (env' := upd ++ (tv.reverse ++ env0)) fun t => get_upd upd _ _ (fun t => by
      by_cases hex : ∃ (i : Nat) (v : AV), tv[i]? = some (t, v)
      · obtain ⟨i, v, hi⟩ := hex
        rw [getL_some hdist (hall i (by have := (List.getElem?_eq_some_iff.1 hi).1; omega)) hi]
        have hmem : (t, v) ∈ tv.reverse := List.mem_reverse.2 (List.mem_of_getElem? hi)
        rw [get_append, if_pos (List.contains_iff_mem.2 (List.mem_map_of_mem (f := (·.1)) hmem))]
        refine get_unique hmem fun u hu => ?_
        obtain ⟨j, hj⟩ := List.getElem?_of_mem (List.mem_reverse.1 hu)
        have := hdist i j t v u hi hj
        subst this
        rw [hi] at hj; simp only [Option.some.injEq, Prod.mk.injEq, true_and] at hj; exact hj.symm
      · rw [getL_none fun i v _ hi => hex ⟨i, v, hi⟩, get_append, if_neg]
        intro hc
        obtain ⟨x, hx, rfl⟩ := List.mem_map.1 (List.contains_iff_mem.1 hc)
        obtain ⟨i, hi⟩ := List.getElem?_of_mem (List.mem_reverse.1 hx)
        exact hex ⟨i, x.2, hi⟩) t
    have := hsuf rfl X a w I μ O n1 n2 n3 hs'
    rw [List.length_drop, Array.length_toList] at this
    exact this
  intro fuel
  induction fuel with
  | zero =>
    intro L a w I O hL hD hmL hup hA hf hs
    refine fin 0 L a w I O hL hmL hup (fun j hj => ?_) (by omega) hs
    cases hv : L.getD j false with
    | true => rfl
    | false =>
      have : 0 < (List.range m).countP (fun i => !L.getD i false) := List.countP_pos_iff.2 ⟨j, List.mem_range.2 hj, by rw [hv]; rfl⟩
      omega
  | succ fuel ih =>
    intro L a w I O hL hD hmL hup hA hf hs
    by_cases hall : ∀ j, j < m → L.getD j false = true
    · exact fin _ L a w I O hL hmL hup hall (by omega) hs
    obtain ⟨j0, ⟨hj0, hj1⟩, hmin⟩ : ∃ j, (j < m ∧ L.getD j false = false) ∧ ∀ k, k < j → L.getD k false = true := by
      have hex : ∃ j, j < m ∧ L.getD j false = false := by
        apply Classical.byContradiction
        intro hno
        refine hall fun j hj => ?_
        cases hv : L.getD j false with
        | true => rfl
        | false => exact absurd ⟨j, hj, hv⟩ hno
      obtain ⟨j, hj⟩ := hex
      induction j using Nat.strongRecOn with
      | ind j ihj =>
        by_cases hk : ∃ k, k < j ∧ L.getD k false = false
        · obtain ⟨k, hk1, hk2⟩ := hk
          exact ihj k hk1 ⟨by omega, hk2⟩
        · refine ⟨j, hj, fun k hk1 => ?_⟩
          cases hv : L.getD k false with
          | true => rfl
          | false => exact absurd ⟨k, hk1, hv⟩ hk
    have hr0 : j0 ∈ Region.ready .any ops L := mem_ready.2 ⟨by rw [listed_def (by omega)]; exact hj1, _, Array.getElem?_eq_getElem (by omega), fun e he hb => hmin _ ((hat j0 _ (Array.getElem?_eq_getElem (by omega))).1 e he hb)⟩
    refine ⟨fun h0 => (by rw [h0] at hr0; cases hr0), fun i hi => ?_⟩
    obtain ⟨h1, o, ho, h2⟩ := mem_ready.1 hi
    have hlt := (Array.getElem?_eq_some_iff.1 ho).1
    rw [listed_def (by omega)] at h1
    have him : i < m := by
      rcases Nat.lt_or_ge i m with hx | hx
      · exact hx
      · have hne : i ≠ m := fun e => by rw [e, hmL] at h1; cases h1
        have := reach_down hD _ _ _ ((hat i o ho).2.2.2 (by omega) j0 (by omega)) fun o' ho' e he hb => by rw [ho] at ho'; cases ho'; exact h2 e he hb
        rw [hj1] at this; cases this
    have hiF : i ∈ F := by
      apply Classical.byContradiction
      intro h; rw [hA i him h] at h1; cases h1
    obtain ⟨o', t, v, ho', htv, hg, hd, hnu, hv⟩ := hF i hiF
    rw [ho] at ho'; cases ho'
    obtain ⟨o2, t2, v2, ho2, htv2, hd2, htn, h0t, hnt, hself, hrk2, hrun⟩ := hone i him
    rw [ho] at ho2; cases ho2
    rw [htv] at htv2
    simp only [Option.some.injEq, Prod.mk.injEq] at htv2
    obtain ⟨rfl, rfl⟩ := htv2
    have hle1 : ∀ s, get (upd ++ env0) s = .un ∨ get (upd ++ env0) s = get (upd ++ envL tv env0 L) s := fun s => by
      rw [get_append, get_append]
      split
      · exact .inr rfl
      · by_cases hex : ∃ (j : Nat) (u : AV), tv[j]? = some (s, u)
        · obtain ⟨j, u, hj⟩ := hex
          obtain ⟨oj, tj, vj, _, r2, r3⟩ := hone j (by have := (List.getElem?_eq_some_iff.1 hj).1; omega)
          rw [hj] at r2; cases r2
          exact .inl r3.2.2.1
        · exact .inr (getL_none fun j u _ hj => hex ⟨j, u, hj⟩).symm
    have hkn : ∀ s, isOwn (get (upd ++ env0) s) = true → get (upd ++ env0) s = get (upd ++ envL tv env0 L) s := fun s hs => by
      rcases hle1 s with h | h
      · rw [h] at hs; cases hs
      · exact h
    have htL : get (envL tv env0 L) t = .un := by
      rw [getL_none fun j u hl hj => by
        have := hdist i j t v u htv hj
        subst this; rw [h1] at hl; cases hl]
      exact h0t
    have htL2 : get (upd ++ envL tv env0 L) t = .un := by rw [get_append, if_neg (by rw [hnu]; simp)]; exact htL
    unfold wpOpIn
    simp only [ho]
    rw [if_pos (by simp [Region.wanted, hg])]
    refine hv.step hd htn hle1 (fun s q off len h => ?_) (fun s q x y h => ?_) (by rw [htL2]; rfl) (fun p hp e => ?_) n1 n2 n3 hs fun a' w' I' O' hs' => ?_
    · have := List.all_eq_true.1 hrk _ (get_mem h (by simp))
      exact hkn q (by simpa using this)
    · have := List.all_eq_true.1 hrk _ (get_mem h (by simp))
      exact hkn q (by simpa using this)
    · subst e
      rcases hp with ⟨off, len, rfl⟩ | ⟨x, y, rfl⟩ <;> simp [notSelf] at hself
    refine ih _ a' w' I' O' (by simpa using hL) (fun k ok hk hok' e he hb => ?_) (by rw [listed_set (by omega)]; split <;> first | rfl | exact hmL) (fun j hj => ?_) (fun j hj hjF => ?_) ?_ (hs'.same fun s => ?_)
    · rw [listed_set (by omega)] at hk ⊢
      split at hk
      · rename_i hik; subst hik
        rw [ho] at hok'; cases hok'
        split
        · rfl
        · exact h2 e he hb
      · split
        · rfl
        · exact hD k ok hk hok' e he hb
    · rw [listed_set (by omega), if_neg (by omega)]; exact hup j hj
    · rw [listed_set (by omega)]
      split
      · rfl
      · exact hA j hj hjF
    · have := countP_set (fun i => !L.getD i false) (fun k => !(L.setIfInBounds i true).getD k false) i (by simp only [h1]; rfl) (by simp only [listed_set (by omega : i < L.size), if_true]; rfl)
        (fun j hj => by simp only [listed_set (by omega : i < L.size)]; rw [if_neg (Ne.symm hj)]) (List.range m) (List.mem_range.2 him) List.nodup_range
      omega
    · simp only [get]
      rw [get_append, get_append]
      by_cases hts : t = s
      · subst hts
        rw [if_pos rfl, if_neg (by rw [hnu]; simp)]
        exact getL_some hdist (by rw [listed_set (by omega), if_pos rfl]) htv
      · rw [if_neg hts]
        split
        · rfl
        · by_cases hex : ∃ (j : Nat) (u : AV), L.getD j false = true ∧ tv[j]? = some (s, u)
          · obtain ⟨j, u, hj1, hj2⟩ := hex
            rw [getL_some hdist hj1 hj2]
            exact getL_some hdist (by rw [listed_set (by omega)]; split <;> first | rfl | exact hj1) hj2
          · rw [getL_none fun j u hl hj => hex ⟨j, u, hl, hj⟩]
            refine getL_none fun j u hl hj => ?_
            rw [listed_set (by omega)] at hl
            split at hl
            · rename_i hij; subst hij
              rw [htv] at hj; cases hj; exact hts rfl
            · exact hex ⟨j, u, hl, hj⟩

/-- A store (the operation m) that need not wait for those of F. -/
theorem drawP1 {m : Nat} {F : List Nat} {env0 upd : Env} {tv : List (Nat × AV)} (hok : drawOKF ops m F = true) (hlen : tv.length = m) (hone : ∀ i, i < m → ∃ o t v, ops[i]? = some o ∧ tv[i]? = some (t, v) ∧ DOne P C ops H env0 (tv.take i).reverse o t v)
    (hdist : ∀ (i j t : Nat) v u, tv[i]? = some (t, v) → tv[j]? = some (t, u) → i = j) (hF : ∀ i ∈ F, FOne P C ops H1 env0 upd tv i) (hrk : refsKnown (upd ++ env0) = true)
    (hst : ∀ om e, ops[m]? = some om → (∀ t, (∀ i ∈ F, ∀ v, tv[i]? ≠ some (t, v)) → get e t = get (tv.reverse ++ env0) t) → OpOK P C om e H fun e' H' => e' = upd ++ e ∧ H' = H1)
    (hsuf : RL P C ops Q (m + 1) (ops.toList.drop (m + 1)) (upd ++ (tv.reverse ++ env0)) H1)
    (n1 : X.nt = C.nt) (n2 : X.n0 = C.n0) (n3 : X.ne = C.ne) : ∀ (fuel : Nat) (L : Array Bool) (a : Act) (w : World) (I : Nat → Prop) (O : Nat → Option Loc), L.size = ops.size → Down ops L → (∀ j, m ≤ j → L.getD j false = false) →
      (List.range m).countP (fun i => !L.getD i false) + (ops.size - m) ≤ fuel → Sim P X (envL tv env0 L) H a w I μ O → wpAnyIn (om C.ro) 0 P .any ops (Post P X Q) fuel L a w := by
  obtain ⟨hm, ⟨om', hom, hog⟩, hat⟩ := drawOKF_at hok
  intro fuel
  induction fuel with
  | zero => intro L a w I O hL hD hup hf hs; omega
  | succ fuel ih =>
    intro L a w I O hL hD hup hf hs
    -- the least that is not listed, up to the store
    obtain ⟨j0, ⟨hj0, hj1⟩, hmin⟩ : ∃ j, (j ≤ m ∧ L.getD j false = false) ∧ ∀ k, k < j → L.getD k false = true := by
      have hex : ∃ j, j ≤ m ∧ L.getD j false = false := ⟨m, Nat.le_refl _, hup m (Nat.le_refl _)⟩
      obtain ⟨j, hj⟩ := hex
      induction j using Nat.strongRecOn with
      | ind j ihj =>
        by_cases hk : ∃ k, k < j ∧ L.getD k false = false
        · obtain ⟨k, hk1, hk2⟩ := hk
          exact ihj k hk1 ⟨by omega, hk2⟩
        · refine ⟨j, hj, fun k hk1 => ?_⟩
          cases hv : L.getD k false with
          | true => rfl
          | false => exact absurd ⟨k, hk1, hv⟩ hk
    have hr0 : j0 ∈ Region.ready .any ops L := mem_ready.2 ⟨by rw [listed_def (by omega)]; exact hj1, _, Array.getElem?_eq_getElem (by omega), fun e he hb => hmin _ ((hat j0 _ (Array.getElem?_eq_getElem (by omega))).1 e he hb)⟩
    refine ⟨fun h0 => (by rw [h0] at hr0; cases hr0), fun i hi => ?_⟩
    obtain ⟨h1, o, ho, h2⟩ := mem_ready.1 hi
    have hlt := (Array.getElem?_eq_some_iff.1 ho).1
    rw [listed_def (by omega)] at h1
    have hpred : ∀ o', ops[i]? = some o' → ∀ e ∈ o'.after, Region.binds .any e = true → L.getD e.on false = true := fun o' ho' e he hb => by rw [ho] at ho'; cases ho'; exact h2 e he hb
    rcases Nat.lt_trichotomy i m with him | him | him
    · refine pureStep (fun i o hi ho => (hat i o ho).2.1 hi) hlen (by omega) hone hdist n1 n2 n3 hL him hi hs fun a' w' I' O' hs' => ?_
      refine ih _ a' w' I' O' (by simpa using hL) (fun k ok hk hok' e he hb => ?_) (fun j hj => ?_) ?_ hs'
      · rw [listed_set (by omega)] at hk ⊢
        split at hk
        · rename_i hik; subst hik
          rw [ho] at hok'; cases hok'
          split
          · rfl
          · exact h2 e he hb
        · split
          · rfl
          · exact hD k ok hk hok' e he hb
      · rw [listed_set (by omega), if_neg (by omega)]; exact hup j hj
      · have := countP_set (fun i => !L.getD i false) (fun k => !(L.setIfInBounds i true).getD k false) i (by simp only [h1]; rfl) (by simp only [listed_set (by omega : i < L.size), if_true]; rfl)
          (fun j hj => by simp only [listed_set (by omega : i < L.size)]; rw [if_neg (Ne.symm hj)]) (List.range m) (List.mem_range.2 him) List.nodup_range
        omega
    · subst him
      have hA : ∀ j, j < i → j ∉ F → L.getD j false = true := fun j hj hjF => by
        rcases (hat i o ho).2.2.1 rfl j hj with h | h
        · exact absurd h hjF
        · exact reach_down hD _ _ _ h hpred
      have hev : ∀ t, (∀ i ∈ F, ∀ v, tv[i]? ≠ some (t, v)) → get (envL tv env0 L) t = get (tv.reverse ++ env0) t := fun t ht => by
        by_cases hex : ∃ (j : Nat) (v : AV), tv[j]? = some (t, v)
        · obtain ⟨j, v, hj⟩ := hex
          have hjF : j ∉ F := fun h => ht j h v hj
          rw [getL_some hdist (hA j (by have := (List.getElem?_eq_some_iff.1 hj).1; omega) hjF) hj]
          have hmem : (t, v) ∈ tv.reverse := List.mem_reverse.2 (List.mem_of_getElem? hj)
          rw [get_append, if_pos (List.contains_iff_mem.2 (List.mem_map_of_mem (f := (·.1)) hmem))]
          refine (get_unique hmem fun u hu => ?_).symm
          obtain ⟨j', hj'⟩ := List.getElem?_of_mem (List.mem_reverse.1 hu)
          have := hdist j j' t v u hj hj'
          subst this
          rw [hj] at hj'; simp only [Option.some.injEq, Prod.mk.injEq, true_and] at hj'; exact hj'.symm
        · rw [getL_none fun j v _ hj => hex ⟨j, v, hj⟩, get_append, if_neg]
          intro hc
          obtain ⟨x, hx, rfl⟩ := List.mem_map.1 (List.contains_iff_mem.1 hc)
          obtain ⟨j, hj⟩ := List.getElem?_of_mem (List.mem_reverse.1 hx)
          exact hex ⟨j, x.2, hj⟩
      rw [hom] at ho; cases ho
      unfold wpOpIn
      simp only [hom]
      rw [if_pos (by simp [Region.wanted, hog])]
      refine hst om' _ hom hev X a w I μ O _ _ n1 n2 n3 hs fun env' H' a' w' I' μ' O' hs' hK => ?_
      obtain ⟨rfl, rfl⟩ := hK
      have heL : envL tv env0 (L.setIfInBounds i true) = envL tv env0 L := by
        have hfm : ∀ (l : List Nat), (∀ j ∈ l, j < i) → l.filterMap (fun j => if (L.setIfInBounds i true).getD j false = true then tv[j]? else none) = l.filterMap fun j => if L.getD j false = true then tv[j]? else none := by
          intro l
          induction l with
          | nil => intro _; rfl
          | cons x l ihl =>
            intro hx
            have := hx x (by simp)
            have e1 := listed_set (L := L) (i := i) (j := x) (by omega)
            rw [if_neg (by omega)] at e1
            simp only [List.filterMap_cons, e1, ihl fun j hj => hx j (by simp [hj])]
        unfold envL
        rw [hfm _ fun j hj => by have := List.mem_range.1 hj; omega]
      rw [← heL] at hs'
      refine drawP2 hok hlen hone hdist hF hrk hsuf n1 n2 n3 fuel _ a' w' I' O' (by simpa using hL) (fun k ok hk hok' e he hb => ?_) (by rw [listed_set (by omega), if_pos rfl]) (fun j hj => ?_) (fun j hj hjF => ?_) ?_ hs'
      · rw [listed_set (by omega)] at hk ⊢
        split at hk
        · rename_i hik; subst hik
          rw [hom] at hok'; cases hok'
          split
          · rfl
          · exact h2 e he hb
        · split
          · rfl
          · exact hD k ok hk hok' e he hb
      · rw [listed_set (by omega), if_neg (by omega)]; exact hup j (by omega)
      · rw [listed_set (by omega), if_neg (by omega)]; exact hA j hj hjF
      · have : (List.range i).countP (fun k => !(L.setIfInBounds i true).getD k false) = (List.range i).countP (fun k => !L.getD k false) := List.countP_congr fun j hj => by
          have := List.mem_range.1 hj
          rw [listed_set (by omega), if_neg (by omega)]
        omega
    · exfalso
      have := reach_down hD _ _ _ ((hat i o ho).2.2.2 him m him) hpred
      rw [hup m (Nat.le_refl _)] at this; cases this

/-- A region whose order is drawn, with a store that need not wait for the operations F. -/
theorem AW.drawnF {id : Nat} (m : Nat) (F : List Nat) {env0 : Env} (upd : Env) (H1 : Heap) (hm : P.follows .mixedOrders = true) (hok : drawOKF ops m F = true) (hrk : refsKnown (upd ++ env0) = true)
    (h : DK P C ops H env0 [] (ops.toList.take m) fun fin => (∀ i ∈ F, FOne P C ops H1 env0 upd fin.reverse i) ∧
      (∀ om e, ops[m]? = some om → (∀ t, (∀ i ∈ F, ∀ v, fin.reverse[i]? ≠ some (t, v)) → get e t = get (fin ++ env0) t) → OpOK P C om e H fun e' H' => e' = upd ++ e ∧ H' = H1) ∧
      RL P C ops Q (m + 1) (ops.toList.drop (m + 1)) (upd ++ (fin ++ env0)) H1) : AW P C (.region id ops true) Q env0 H := fun X a w I μ O n1 n2 n3 hs => by
  obtain ⟨fin, hDL, hF, hst, hsuf⟩ := h
  obtain ⟨tv, k1, k2, k3⟩ := hDL.table
  rw [List.append_nil] at k2
  subst k2
  rw [List.reverse_reverse] at hF hst
  obtain ⟨hle, _, _⟩ := drawOKF_at hok
  have hlen : tv.length = m := by rw [k1]; simp; omega
  refine wpIn_region_any hm ?_
  have hz : ∀ j, (Array.replicate ops.size false).getD j false = false := fun j => by
    simp only [Array.getD_eq_getD_getElem?, Array.getElem?_replicate]
    split <;> rfl
  have hs' : Sim P X (envL tv env0 (Array.replicate ops.size false)) H a { w with drawn := w.drawn + 1 } I μ O :=
    (hs.grow (w' := { w with drawn := w.drawn + 1 }) ⟨rfl, rfl, rfl, Nat.le_refl _, fun _ _ => rfl⟩).same fun t => getL_none fun i v h => by
      rw [hz] at h; cases h
  have hone : ∀ i, i < m → ∃ o t v, ops[i]? = some o ∧ tv[i]? = some (t, v) ∧ DOne P C ops H env0 (tv.take i).reverse o t v := fun i hi => by
    have ho : ops[i]? = some ops[i] := Array.getElem?_eq_getElem (by omega)
    obtain ⟨t, v, m1, m2⟩ := k3 i ops[i] (by rw [List.getElem?_take_of_lt hi]; simp)
    exact ⟨_, t, v, ho, m1, by simpa using m2⟩
  have hdist : ∀ (i j t : Nat) v u, tv[i]? = some (t, v) → tv[j]? = some (t, u) → i = j := by
    have lt : ∀ (i j t : Nat) v u, tv[i]? = some (t, v) → tv[j]? = some (t, u) → ¬ i < j := fun i j t v u hi hj hij => by
      have hjm : j < m := by have := (List.getElem?_eq_some_iff.1 hj).1; omega
      obtain ⟨o, t', v', _, k1, k2⟩ := hone j hjm
      rw [hj] at k1; cases k1
      refine k2.2.2.2.1 (t, v) ?_ rfl
      rw [List.mem_reverse]
      exact List.mem_of_getElem? (by rw [List.getElem?_take_of_lt hij]; exact hi)
    intro i j t v u hi hj
    have h1 := lt i j t v u hi hj
    have h2 := lt j i t u v hj hi
    omega
  refine drawP1 hok hlen hone hdist hF hrk hst hsuf n1 n2 n3 ops.size _ a _ I O (by simp) (fun i o h => by rw [hz] at h; cases h) (fun j _ => hz j) ?_ hs'
  have h1 := List.countP_le_length (p := fun i => !(Array.replicate ops.size false).getD i false) (l := List.range m)
  rw [List.length_range] at h1
  omega
end
end Go.FL
/-
  A FUNCTIONAL LOGIC, 24: rules for boxes, pointers, and calls that are handed such.
-/
namespace Go.FL
open Go Go.RowKit

theorem dropR_noRefs {s : Pl} {env : Env} (h : ∀ t, clr s (get env t) = get env t) (t : Nat) : get (dropR s env) t = get env t := by rw [get_dropR]; exact h t
/-- Nobody looks at this cell. -/
def noCell (id off : Nat) (env : Env) : Bool := env.all fun x => match x.2 with
  | .ref (.c i o) _ _ => !(i == id && o == off)
  | .ep (.c i o) _ _ => !(i == id && o == off)
  | _ => true
section
variable {P : Program} {C : Cx} {X : Snap} {o : Oper} {ops : Array Oper} {Q : Exit → Env → Heap → Prop} {env env' : Env} {H H' : Heap} {a : Act} {w w' : World} {I I' : Nat → Prop} {μ μ' : List Nat} {O O' : Nat → Option Loc}
  {K : Env → Heap → Prop} {k : Nat} {l : List Oper}

theorem noCell_clr {id off : Nat} (h : noCell id off env = true) (t : Nat) : clr (.c id off) (get env t) = get env t := by
  cases hg : get env t with
  | ref p x y =>
    cases p with
    | t q => rfl
    | c i o' =>
      have := List.all_eq_true.1 h _ (get_mem hg (by simp))
      simp only [Bool.not_eq_true', Bool.and_eq_false_iff, beq_eq_false_iff_ne, ne_eq] at this
      simp only [clr]
      rw [if_neg]
      intro e; cases e
      rcases this with h | h <;> exact h rfl
  | ep p x y =>
    cases p with
    | t q => rfl
    | c i o' =>
      have := List.all_eq_true.1 h _ (get_mem hg (by simp))
      simp only [Bool.not_eq_true', Bool.and_eq_false_iff, beq_eq_false_iff_ne, ne_eq] at this
      simp only [clr]
      rw [if_neg]
      intro e; cases e
      rcases this with h | h <;> exact h rfl
  | _ => rfl

theorem lk_const {x : Operand} (h : ∀ q, x ≠ .tmp q) (e e' : Env) : lk e x = lk e' x := by
  have h1 : ∀ s, aoOf x ≠ .t s := by
    intro s hs
    unfold aoOf at hs
    split at hs <;> first | (cases hs; done) | (rename_i q; exact h q rfl)
  have h2 : look e (aoOf x) = look e' (aoOf x) := by
    cases hx : aoOf x with
    | t s => exact absurd hx (h1 s)
    | _ => rfl
  unfold lk
  split
  · rename_i q; exact absurd rfl (h q)
  · rfl
  · rw [h2]
theorem argsA_congr {e e' : Env} (h : ∀ q, isRef (get e q) = false → get e' q = get e q) : ∀ {xs : List Operand} {avs : List AV}, argsA e xs = some avs → argsA e' xs = some avs := by
  intro xs
  induction xs with
  | nil => intro avs h; exact h
  | cons x xs ih =>
    intro avs ha
    simp only [argsA] at ha ⊢
    split at ha
    · rename_i vs h1
      rw [ih h1]
      split at ha
      · rename_i h2
        have hl : lk e' x = lk e x := by
          cases x with
          | tmp q =>
            simp only [Bool.and_eq_true, Bool.not_eq_true'] at h2
            exact h _ h2.2
          | _ => exact lk_const (by simp) _ _
        simp only [hl, h2, if_true]; exact ha
      · cases ha
    · cases ha
/-- A box's cell is read. -/
theorem ldb {x : Operand} {ty t id off : Nat} {cs : List AV} {c : AV} (hH : H[id]? = some (.box cs)) (hc : cs[off]? = some c) (h : RL P C ops Q (k + 1) l ((t, c) :: env) H) (hag : aggT P ty = some false) (hg : grd ops env o true = true := by rfl) (ho : o.op = .load ty x := by rfl)
    (hv : lk env x = .bp id off := by rfl) (hn : noOwn c = true := by rfl) (hd : o.dst = some t := by rfl) (hf : isOwn (get env t) = false := by rfl) (ht : okT C.nt t := by rfl) : RL P C ops Q k (o :: l) env H := by
  obtain ⟨h1, h2⟩ := lk_copy hv (by simp)
  rw [← put_cons hf] at h
  exact .go hg (ok_ld_box ho h1 hd ht hag h2 hH hc hn h)
/-- .. a slice of the call's own is looked at. -/
theorem ldbo {x : Operand} {ty t id off : Nat} {cs : List AV} {e : TypeId} {xs : List DV} (hH : H[id]? = some (.box cs)) (hc : cs[off]? = some (.own e xs)) (h : RL P C ops Q (k + 1) l ((t, .ref (.c id off) 0 xs.length) :: env) H) (hag : aggT P ty = some false)
    (hg : grd ops env o true = true := by rfl) (ho : o.op = .load ty x := by rfl) (hv : lk env x = .bp id off := by rfl) (hd : o.dst = some t := by rfl) (hf : isOwn (get env t) = false := by rfl) (ht : okT C.nt t := by rfl) : RL P C ops Q k (o :: l) env H := by
  obtain ⟨h1, h2⟩ := lk_copy hv (by simp)
  rw [← put_cons hf] at h
  exact .go hg (ok_ld_box_own ho h1 hd ht hag h2 hH hc h)
/-- A box's cell is given a deep value. -/
theorem stb {x y : Operand} {ty id off : Nat} {cs : List AV} {c : AV} {v : DV} (hH : H[id]? = some (.box cs)) (hc : cs[off]? = some c) (h : RL P C ops Q (k + 1) l env (H.set id (.box (cs.set off (.d v))))) (hsz : szOf P ty = 1) (hg : grd ops env o true = true := by rfl)
    (ho : o.op = .store ty x y := by rfl) (hv : lk env x = .bp id off := by rfl) (hy : lk env y = .d v := by rfl) (hl : v.leaf = true := by rfl) (hn : isOwn c = false := by rfl) (hd : o.dst = none := by rfl) (h0 : C.n0 = 0 := by rfl) : RL P C ops Q k (o :: l) env H := by
  obtain ⟨h1, h2⟩ := lk_copy hv (by simp)
  obtain ⟨h3, h4⟩ := lk_copy hy (by simp)
  refine .go hg (ok_st_box ho h1 h3 hd hsz h2 hH hc (by omega) (by rw [h4]; exact hl) (.inl (by rw [h4]; rfl)) ?_)
  have e1 : useE env (aoOf y) = env := by
    cases hx : aoOf y with
    | t s => rw [hx] at h4; simp only [useE]; rw [show get env s = _ from h4]; rfl
    | _ => rfl
  rw [hn, h4, e1]
  simpa [dropIf, setC, hH] using h
/-- .. a slice of the call's own, out of a temporary. -/
theorem stbo {x : Operand} {r ty id off : Nat} {cs : List AV} {c : AV} {e : TypeId} {xs : List DV} (hH : H[id]? = some (.box cs)) (hc : cs[off]? = some c) (h : RL P C ops Q (k + 1) l ((r, .un) :: env) (H.set id (.box (cs.set off (.own e xs))))) (hsz : szOf P ty = 1) (hg : grd ops env o true = true := by rfl)
    (ho : o.op = .store ty x (.tmp r) := by rfl) (hv : lk env x = .bp id off := by rfl) (hy : get env r = .own e xs := by rfl) (hnc : noCell id off env = true := by rfl) (hr : refsTo r env = false := by rfl) (hd : o.dst = none := by rfl) (h0 : C.n0 = 0 := by rfl) : RL P C ops Q k (o :: l) env H := by
  obtain ⟨h1, h2⟩ := lk_copy hv (by simp)
  refine .go hg (ok_st_box (ay := .t r) ho h1 (by simp [fitsO]) hd hsz h2 hH hc (by omega) (by show one (get env r) = true; rw [hy]; rfl) (.inr ⟨r, rfl⟩) ?_)
  have e2 : setC H id off (look env (.t r)) = H.set id (.box (cs.set off (.own e xs))) := by
    show setC H id off (get env r) = _
    rw [hy]; simp [setC, hH]
  rw [e2]
  refine RL.gh (Gh.same fun t => ?_) h
  have e3 : useE env (.t r) = put env r .un := by simp [useE, hy, noOwn]
  rw [get_dropIf, e3, put_noRefs hr]
  split
  · simp only [get]
    split
    · rfl
    · exact (noCell_clr hnc t).symm
  · rfl
theorem fab {x : Operand} {s f t off n id p : Nat} (h : RL P C ops Q (k + 1) l ((t, .bp id (p + off)) :: env) H) (hf' : fieldT P s f = some (off, n)) (hn : 0 < n) (hg : grd ops env o true = true := by rfl) (ho : o.op = .fieldAddr s x f := by rfl)
    (hv : lk env x = .bp id p := by rfl) (hd : o.dst = some t := by rfl) (hf : isOwn (get env t) = false := by rfl) (ht : okT C.nt t := by rfl) : RL P C ops Q k (o :: l) env H := by
  obtain ⟨h1, h2⟩ := lk_copy hv (by simp)
  rw [← put_cons hf] at h
  exact .go hg (ok_fad_bp ho h1 hd ht hf' hn h2 h)
theorem ncb {x : Operand} {t id p : Nat} (h : RL P C ops Q (k + 1) l ((t, .bp id p) :: env) H) (hg : grd ops env o true = true := by rfl) (ho : o.op = .nilCheck x := by rfl)
    (hv : lk env x = .bp id p := by rfl) (hd : o.dst = some t := by rfl) (hf : isOwn (get env t) = false := by rfl) (ht : okT C.nt t := by rfl) : RL P C ops Q k (o :: l) env H := by
  obtain ⟨h1, h2⟩ := lk_copy hv (by simp)
  rw [← put_cons hf] at h
  exact .go hg (ok_nc ho h1 hd ht (.inl ⟨id, p, h2⟩) (by rw [h2]; exact h))
/-- A new box of a type's zero. -/
theorem al {ty t : Nat} {z : Value} {cs : List AV} (h : RL P C ops Q (k + 1) l ((t, .bp H.length 0) :: env) (H ++ [.box cs])) (hz : ∀ w, (zeroValue ty).run P w = .ok z w) (hcs : ∀ w I μ, ARepAll P w I μ cs z.cells.toList [])
    (hg : grd ops env o true = true := by rfl) (ho : o.op = .alloc ty := by rfl) (hd : o.dst = some t := by rfl) (hf : isOwn (get env t) = false := by rfl) (ht : okT C.nt t := by rfl) : RL P C ops Q k (o :: l) env H := by
  rw [← put_cons hf] at h
  refine .go hg (.val (env' := env) (H' := H ++ [.box cs]) (by simp [ho]) hd ht (fun X a w I μ O _ _ _ hs => ?_) h)
  obtain ⟨μ', O', q1, q2⟩ := hs.box (cs := cs) (vs := z.cells.toList) ⟨[], hcs w I μ, List.nodup_nil, by simp⟩ ty
  refine ⟨.pointer (some ⟨w.heap.size, 0, none⟩), _, I, μ', O', ?_, q1, q2⟩
  simp only [execOp, ho, Instr.alloc, Sem.run_bind, hz, Result.andThen_ok, run_newVar, Sem.run_pure, Array.toArray_toList]
/-- append: to a slice of the call's own in a box's cell, at which a temporary (r) looks. -/
theorem apc {c : Call} {y : Operand} {r t id off ty e sz by_ len : Nat} {z : Value} {cs : List AV} {xs ys : List DV} (hH : H[id]? = some (.box cs)) (hcs : cs[off]? = some (.own e xs)) (hb : len + ys.length ≤ 9223372036854775807 ∧ (len + ys.length) * by_ ≤ 140737488355328)
    (h : RL P C ops Q (k + 1) l ((t, .own e (xs.take len ++ ys)) :: (r, .un) :: env) (H.set id (.box (cs.set off .un)))) (hsz : ∀ x ∈ ys, x.cells.length = sz) (hT : elemT P ty = some (e, sz, by_, z)) (hg : grd ops env o true = true := by rfl) (ho : o.op = .call c := by rfl)
    (hc : c.callee = .builtin .append := by rfl) (hx : c.args = #[.tmp r, y] := by rfl) (hty : c.argTypes = #[ty, ty] := by rfl) (hv : get env r = .ref (.c id off) 0 len := by rfl) (hy : rd env H (lk env y) = some ys := by rfl) (hd : o.dst = some t := by rfl)
    (hf : isOwn (get env t) = false := by rfl) (hnc : noCell id off ((r, .un) :: env.filter fun x => x.1 != r) = true := by rfl) (ht : okT C.nt t := by rfl) (h0 : C.n0 = 0 := by rfl) : RL P C ops Q k (o :: l) env H := by
  refine .go hg (ok_app_cell ho hc hx hty hd ht (by simp [fitsO]) hT hv hH hcs (by omega) hy hsz (by simpa [maxLen] using hb.1) hb.2 ?_)
  have h1 : isOwn (get (dropR (.c id off) env) t) = false := by rw [get_dropR, isOwn_clr]; exact hf
  rw [put_cons h1, show setC H id off .un = H.set id (.box (cs.set off .un)) by simp [setC, hH]]
  refine RL.gh (Gh.same fun q => ?_) h
  simp only [get, get_dropR]
  split
  · rfl
  · split
    · rename_i hq; subst hq; rw [hv]; simp [clr]
    · rename_i hq
      have hfl : ∀ env : Env, get (env.filter fun x => x.1 != r) q = get env q := fun env => by
        induction env with
        | nil => rfl
        | cons x xs ih =>
          obtain ⟨u, v⟩ := x
          by_cases hu : u = r
          · subst hu; simp [get, ih, hq]
          · have hu' : (u != r) = true := by simpa using hu
            rw [List.filter_cons_of_pos (by exact hu')]
            simp only [get, ih]
      have := noCell_clr hnc q
      simpa [get, hq, hfl] using this.symm
/-- A call that is handed pointers. -/
theorem clg {c : Call} {f t : Nat} {avs : List AV} {r : AV} (h : ∀ G, RL P C ops Q (k + 1) l ((t, r) :: env) (H' ++ G)) (hfn : FnG P f avs H r [] H') (hcall : ∀ args w, (callFunc f args).run P w = .ok (.enter f args) w)
    (hg : grd ops env o true = true := by rfl) (ho : o.op = .call c := by rfl) (hc : c.callee = .value (.func f) := by rfl) (ha : argsA env c.args.toList = some avs := by rfl) (hcr : cellRefs env = false := by rfl) (hd : o.dst = some t := by rfl)
    (hf : isOwn (get env t) = false := by rfl) (ht : okT C.nt t := by rfl) (h0 : C.n0 = 0 := by rfl) : RL P C ops Q k (o :: l) env H := by
  refine .go hg (OpOK.callG ho hc ha hcr h0 hcall hfn (fun t' h' => by rw [hd] at h'; cases h'; exact ht) fun G => ?_)
  rw [hd]
  show RL P C ops Q (k + 1) l (put env t r) (H' ++ G)
  rw [put_cons hf]; exact h G
/-- A call that is handed a slice of the call's own. -/
theorem clg1 {c : Call} {f t s t0 : Nat} {avs : List AV} {r : AV} {xa : List Operand} {e : TypeId} {xs : List DV} (xs' : List DV) (h : ∀ G, RL P C ops Q (k + 1) l ((t, r) :: (t0, .own e xs') :: (s, .un) :: env) (H' ++ G)) (hfn : FnG P f (.own e xs :: avs) H r [.own e xs'] H')
    (hcall : ∀ args w, (callFunc f args).run P w = .ok (.enter f args) w) (hg : grd ops env o true = true := by rfl) (ho : o.op = .call c := by rfl) (hc : c.callee = .value (.func f) := by rfl) (hx : c.args.toList = .tmp s :: xa := by rfl)
    (hv : get env s = .ref (.t t0) 0 xs.length := by rfl) (hp : get env t0 = .own e xs := by rfl) (ha : argsA ((t0, .un) :: env) xa = some avs := by rfl) (hcr : cellRefs env = false := by rfl) (hr : refsTo t0 ((s, .un) :: env.filter fun x => x.1 != s) = false := by rfl) (hd : o.dst = some t := by rfl)
    (hf : isOwn (get env t) = false := by rfl) (hst : s ≠ t0 := by decide) (htt : t ≠ t0 := by decide) (ht : okT C.nt t := by rfl) (h0 : C.n0 = 0 := by rfl) : RL P C ops Q k (o :: l) env H := by
  have hput : put env t0 .un = (t0, .un) :: dropR (.t t0) env := by simp [put, hp, isOwn]
  have hget : ∀ q, get (put env t0 .un) q = get ((t0, .un) :: (s, .un) :: env) q := fun q => by
    rw [hput]
    simp only [get, get_dropR]
    split
    · rfl
    · split
      · rename_i hq; subst hq; rw [hv]; simp [clr]
      · rename_i hq; exact dropR_only hr q (Ne.symm hq)
  have hcr' : cellRefs (put env t0 .un) = false := by
    rw [hput]
    cases hx : cellRefs ((t0, AV.un) :: dropR (.t t0) env) with
    | false => rfl
    | true =>
      obtain ⟨y, hy, hy2⟩ := List.any_eq_true.1 hx
      rcases List.mem_cons.1 hy with rfl | hy
      · cases hy2
      · obtain ⟨z, hz, rfl⟩ := List.mem_map.1 hy
        have hcl : ∀ v, isCellRef (clr (.t t0) v) = true → isCellRef v = true := fun v hv => by
          cases v <;> first | exact hv | (simp only [clr] at hv; split at hv <;> first | (cases hv; done) | exact hv)
        have : cellRefs env = true := List.any_eq_true.2 ⟨z, hz, hcl _ hy2⟩
        rw [hcr] at this; cases this
  have ha' : argsA (put env t0 .un) xa = some avs := argsA_congr (fun q hq => by
    rw [hget]
    simp only [get] at hq ⊢
    split
    · rfl
    · rename_i h1
      rw [if_neg h1] at hq
      split
      · rename_i h2; subst h2; rw [hv] at hq; cases hq
      · rfl) ha
  refine .go hg (OpOK.callG1 ho hc hx hv hp ha' hcr' h0 hcall hfn (fun t' h' => by rw [hd] at h'; cases h'; exact ht) fun G => ?_)
  rw [hd]
  show RL P C ops Q (k + 1) l (put ((t0, .own e xs') :: put env t0 .un) t r) (H' ++ G)
  have h1 : isOwn (get ((t0, .own e xs') :: put env t0 .un) t) = false := by
    simp only [get]
    rw [if_neg (Ne.symm htt), hget]
    simp only [get]
    rw [if_neg (Ne.symm htt)]
    split
    · rfl
    · exact hf
  rw [put_cons h1]
  refine RL.gh (Gh.same fun q => ?_) (h G)
  simp only [get]
  split
  · rfl
  · split
    · rfl
    · rw [hget]
      simp only [get]
      rename_i h2
      rw [if_neg h2]
end
end Go.FL
/-
  Types of the set's programs: sizes, kinds, elements.
-/
namespace Go.FL
open Go Go.Proofs

theorem mixed : Try.prog.follows .mixedOrders = true := by kernel_rfl
theorem s32 : sliceT Try.prog 22 = some (49, 1, 4) := by kernel_rfl
theorem e32 : elemT Try.prog 22 = some (49, 1, 4, .int .u32 0) := by kernel_rfl
theorem l32 : Try.prog.underlying 22 = some (.slice (Try.prog.elem 22)) := by kernel_rfl
theorem a32 : aggT Try.prog 49 = some false := by kernel_rfl
theorem z32 : szOf Try.prog 49 = 1 := by kernel_rfl
theorem slm : sliceT Try.prog 67 = some (49, 1, 4) := by kernel_rfl
theorem elm : elemT Try.prog 67 = some (49, 1, 4, .int .u32 0) := by kernel_rfl
theorem llm : Try.prog.underlying 67 = some (.slice (Try.prog.elem 67)) := by kernel_rfl
theorem alm : aggT Try.prog 67 = some false := by kernel_rfl
theorem zlm : szOf Try.prog 67 = 1 := by kernel_rfl
theorem u32 : Try.prog.underlying 49 = some (.int .u32) := by kernel_rfl
theorem u64 : Try.prog.underlying 31 = some (.int .u64) := by kernel_rfl
theorem i64 : Try.prog.underlying 3 = some (.int .i64) := by kernel_rfl
theorem u8 : Try.prog.underlying 5 = some (.int .u8) := by kernel_rfl
theorem bo : Try.prog.underlying 4 = some .bool := by kernel_rfl
theorem st : Try.prog.underlying 9 = some .string := by kernel_rfl

/-- A limb; limbs. -/
def U (n : Nat) : DV := .i .u32 n
def L (xs : List Nat) : List DV := xs.map U
theorem L_length (xs : List Nat) : (L xs).length = xs.length := by simp [L]
theorem L_sz (xs : List Nat) : ∃ sz, ∀ x ∈ L xs, x.cells.length = sz := ⟨1, fun x hx => by
  simp only [L, List.mem_map] at hx
  obtain ⟨n, _, rfl⟩ := hx; rfl⟩
theorem L_sz1 (xs : List Nat) : ∀ x ∈ L xs, x.cells.length = 1 := fun x hx => by
  simp only [L, List.mem_map] at hx
  obtain ⟨n, _, rfl⟩ := hx; rfl
theorem L_at {xs : List Nat} {i n : Nat} (h : xs[i]? = some n) : (L xs)[i]? = some (U n) := by simp [L, h]
theorem L_append (xs ys : List Nat) : L (xs ++ ys) = L xs ++ L ys := by simp [L]
theorem L_take (xs : List Nat) (n : Nat) : (L xs).take n = L (xs.take n) := by simp [L, List.map_take]
theorem L_drop (xs : List Nat) (n : Nat) : (L xs).drop n = L (xs.drop n) := by simp [L, List.map_drop]

/-- Limbs without those at the end that are 0. -/
def cutL (xs : List Nat) : List Nat := (xs.reverse.dropWhile (· == 0)).reverse
theorem cutL_nil : cutL [] = [] := rfl
theorem cutL_zero (xs : List Nat) : cutL (xs ++ [0]) = cutL xs := by simp [cutL]
theorem cutL_pos (xs : List Nat) {x : Nat} (h : x ≠ 0) : cutL (xs ++ [x]) = xs ++ [x] := by simp [cutL, h]
end Go.FL
/-
  Limbs and the numbers that they stand for: plain, no program in sight.
-/
namespace Go.FL
open Go

/-- The number that limbs stand for. -/
def val : List Nat → Nat
  | [] => 0
  | x :: xs => x + 4294967296 * val xs
def Ok (a : List Nat) : Prop := ∀ x ∈ a, x < 4294967296
/-- A number's limbs. -/
def digs (n : Nat) : List Nat := if h : n = 0 then [] else n % 4294967296 :: digs (n / 4294967296)
termination_by n
decreasing_by exact Nat.div_lt_self (by omega) (by decide)

theorem digs_zero : digs 0 = [] := by unfold digs; simp
theorem digs_pos {n : Nat} (h : n ≠ 0) : digs n = n % 4294967296 :: digs (n / 4294967296) := by
  conv => lhs; unfold digs
  simp [h]
theorem Ok.nil : Ok [] := by simp [Ok]
theorem Ok.cons {x : Nat} {a : List Nat} (h : x < 4294967296) (ha : Ok a) : Ok (x :: a) := by
  intro y hy
  rcases List.mem_cons.1 hy with rfl | hy
  · exact h
  · exact ha y hy
theorem Ok.head {x : Nat} {a : List Nat} (h : Ok (x :: a)) : x < 4294967296 := h x (by simp)
theorem Ok.tail {x : Nat} {a : List Nat} (h : Ok (x :: a)) : Ok a := fun y hy => h y (by simp [hy])
theorem Ok.append {a b : List Nat} (ha : Ok a) (hb : Ok b) : Ok (a ++ b) := by
  intro y hy
  rcases List.mem_append.1 hy with hy | hy
  · exact ha y hy
  · exact hb y hy
theorem Ok.left {a b : List Nat} (h : Ok (a ++ b)) : Ok a := fun y hy => h y (by simp [hy])
theorem Ok.right {a b : List Nat} (h : Ok (a ++ b)) : Ok b := fun y hy => h y (by simp [hy])
theorem Ok.take {a : List Nat} (h : Ok a) (n : Nat) : Ok (a.take n) := fun y hy => h y (List.mem_of_mem_take hy)
theorem Ok.drop {a : List Nat} (h : Ok a) (n : Nat) : Ok (a.drop n) := fun y hy => h y (List.mem_of_mem_drop hy)
theorem Ok.set {a : List Nat} (h : Ok a) (n : Nat) {x : Nat} (hx : x < 4294967296) : Ok (a.set n x) := fun y hy => by
  rcases List.mem_or_eq_of_mem_set hy with hy | rfl
  · exact h y hy
  · exact hx
theorem Ok.at {a : List Nat} (h : Ok a) {n x : Nat} (hx : a[n]? = some x) : x < 4294967296 := h x (List.mem_of_getElem? hx)
theorem digs_ok (n : Nat) : Ok (digs n) := by
  induction n using Nat.strongRecOn with
  | ind n ih =>
    by_cases h : n = 0
    · subst h; rw [digs_zero]; exact .nil
    · rw [digs_pos h]
      exact .cons (Nat.mod_lt _ (by decide)) (ih _ (Nat.div_lt_self (by omega) (by decide)))
theorem val_digs (n : Nat) : val (digs n) = n := by
  induction n using Nat.strongRecOn with
  | ind n ih =>
    by_cases h : n = 0
    · subst h; rw [digs_zero]; rfl
    · rw [digs_pos h, val, ih _ (Nat.div_lt_self (by omega) (by decide))]
      exact Nat.mod_add_div n 4294967296
theorem val_append (a b : List Nat) : val (a ++ b) = val a + 4294967296 ^ a.length * val b := by
  induction a with
  | nil => simp [val]
  | cons x a ih =>
    simp only [List.cons_append, val, ih, List.length_cons, Nat.pow_succ]
    rw [Nat.mul_add, ← Nat.mul_assoc, Nat.mul_comm 4294967296 (4294967296 ^ a.length), Nat.add_assoc]
theorem val_lt {a : List Nat} (h : Ok a) : val a < 4294967296 ^ a.length := by
  induction a with
  | nil => simp [val]
  | cons x a ih =>
    have h1 := h.head
    have h2 := ih h.tail
    simp only [val, List.length_cons, Nat.pow_succ]
    have : 4294967296 * val a + 4294967296 ≤ 4294967296 * 4294967296 ^ a.length := by
      rw [← Nat.mul_succ]; exact Nat.mul_le_mul_left _ h2
    rw [Nat.mul_comm (4294967296 ^ a.length)]
    omega
/-- Limbs whose last is not 0 are their number's. -/
def Top (a : List Nat) : Prop := ∀ x, a.getLast? = some x → x ≠ 0
theorem digs_val {a : List Nat} (h : Ok a) (ht : Top a) : digs (val a) = a := by
  induction a with
  | nil => rw [val, digs_zero]
  | cons x a ih =>
    have hx := h.head
    have hne : val (x :: a) ≠ 0 := by
      intro h0
      simp only [val] at h0
      have h1 : x = 0 := by omega
      have h2 : val a = 0 := by
        rcases Nat.eq_zero_or_pos (val a) with h | h
        · exact h
        · have : 4294967296 * 1 ≤ 4294967296 * val a := Nat.mul_le_mul_left _ h
          omega
      cases a with
      | nil => exact ht x (by simp) h1
      | cons y b =>
        have := ih h.tail (fun z hz => ht z (by simpa [List.getLast?_cons_cons] using hz))
        rw [h2, digs_zero] at this; cases this
    rw [digs_pos hne]
    have h1 : val (x :: a) % 4294967296 = x := by simp only [val]; rw [Nat.add_mul_mod_self_left]; exact Nat.mod_eq_of_lt hx
    have h2 : val (x :: a) / 4294967296 = val a := by simp only [val]; rw [Nat.add_mul_div_left _ _ (by decide), Nat.div_eq_of_lt hx]; omega
    rw [h1, h2]
    congr 1
    cases a with
    | nil => rw [val, digs_zero]
    | cons y b => exact ih h.tail (fun z hz => ht z (by simpa [List.getLast?_cons_cons] using hz))
theorem top_digs (n : Nat) : Top (digs n) := by
  induction n using Nat.strongRecOn with
  | ind n ih =>
    intro x hx
    by_cases h : n = 0
    · subst h; rw [digs_zero] at hx; cases hx
    · rw [digs_pos h] at hx
      by_cases h2 : n / 4294967296 = 0
      · rw [h2, digs_zero] at hx
        simp at hx
        have : n < 4294967296 := by
          rcases Nat.lt_or_ge n 4294967296 with h | h
          · exact h
          · have := Nat.div_pos h (by decide); omega
        rw [Nat.mod_eq_of_lt this] at hx; omega
      · have := ih (n / 4294967296) (Nat.div_lt_self (by omega) (by decide))
        rw [digs_pos h2] at hx this
        exact this x (by simpa [List.getLast?_cons_cons] using hx)
theorem val_zero (a : List Nat) : val (a ++ [0]) = val a := by rw [val_append]; simp [val]
theorem cutL_val {a : List Nat} (h : Ok a) : cutL a = digs (val a) := by
  generalize hn : a.length = n
  induction n generalizing a with
  | zero =>
    have : a = [] := by cases a <;> simp_all
    subst this; rw [val, digs_zero]; rfl
  | succ n ih =>
    rcases List.eq_nil_or_concat a with rfl | ⟨b, x, rfl⟩
    · rw [val, digs_zero]; rfl
    · rw [List.concat_eq_append] at *
      by_cases hx : x = 0
      · subst hx
        rw [cutL_zero, val_zero]
        exact ih h.left (by simpa using hn)
      · rw [cutL_pos _ hx, digs_val h]
        intro y hy
        simp at hy; omega
theorem cutL_pre (a : List Nat) : ∃ k, a = cutL a ++ List.replicate k 0 := by
  generalize hn : a.length = n
  induction n generalizing a with
  | zero =>
    have : a = [] := by cases a <;> simp_all
    subst this; exact ⟨0, rfl⟩
  | succ n ih =>
    rcases List.eq_nil_or_concat a with rfl | ⟨b, x, rfl⟩
    · exact ⟨0, rfl⟩
    · rw [List.concat_eq_append] at *
      by_cases hx : x = 0
      · subst hx
        obtain ⟨k, hk⟩ := ih b (by simpa using hn)
        refine ⟨k + 1, ?_⟩
        rw [cutL_zero, List.replicate_succ', ← List.append_assoc, ← hk]
      · rw [cutL_pos _ hx]; exact ⟨0, by simp⟩
theorem digs_eq_iff {a : List Nat} (h : Ok a) : a.length = (digs (val a)).length ↔ digs (val a) = a := by
  obtain ⟨k, hk⟩ := cutL_pre a
  rw [cutL_val h] at hk
  constructor
  · intro hl
    have : k = 0 := by
      have := congrArg List.length hk
      simp at this; omega
    subst this; simpa using hk.symm
  · intro h; rw [h]
theorem digs_len {n k : Nat} (h : n < 4294967296 ^ k) : (digs n).length ≤ k := by
  induction k generalizing n with
  | zero =>
    have : n = 0 := by simpa using h
    subst this; rw [digs_zero]; simp
  | succ k ih =>
    by_cases h0 : n = 0
    · subst h0; rw [digs_zero]; simp
    · rw [digs_pos h0, List.length_cons]
      have : n / 4294967296 < 4294967296 ^ k := by
        rw [Nat.div_lt_iff_lt_mul (by decide)]; rwa [Nat.pow_succ] at h
      have := ih this; omega
theorem digs_len_le {a : List Nat} (h : Ok a) : (digs (val a)).length ≤ a.length := digs_len (val_lt h)
end Go.FL
/-
  nat.cut, slices.Clone, nat.Trim
-/
namespace Go.FL
open Go Go.Proofs

theorem cut_fn (xs : List Nat) (hx : xs.length ≤ 35184372087808) : Fn Try.prog 46 [.sl (L xs)] (.d (.sl (L (cutL xs)))) := by
  refine Fn.of (rs := [.tmp 2]) (nt := 24) Try.func46 rfl rfl rfl (by simp) rfl ?_
  refine .seq (.region ?_)
  refine asn ?_
  refine rn ?_
  refine .seq (.block (.loop (.gh (Gh.keep [0] rfl) ?_)))
  refine AL.ind (σ := List Nat) (m := List.length) (e := fun ys => [(0, .d (.sl (L ys)))]) (h := fun _ => []) (I := fun ys => cutL ys = cutL xs ∧ ys.length ≤ xs.length) ?_ xs ⟨rfl, Nat.le_refl _⟩
  intro ys ⟨hI, hl⟩ ih
  refine .seq (.seq (.region ?_))
  refine mvd ?_
  refine ln ?_ (L_sz _) l32
  refine bi ?_
  refine mvd ?_
  rcases List.eq_nil_or_concat ys with rfl | ⟨zs, z, rfl⟩
  · refine gf ?_
    refine gf ?_
    refine gf ?_
    refine gf ?_
    refine gf ?_
    refine gf ?_
    refine gf ?_
    refine pkd ?_
    refine rn ?_
    refine cndf ?_
    refine .exit ?_
    show AW _ _ _ _ _ _
    refine .seq (.region ?_)
    refine mvd ?_
    refine asd ?_
    refine rn ?_
    refine .ret ?_
    exact ⟨by rw [← hI]; rfl, rfl⟩
  · simp only [List.concat_eq_append, List.length_append, List.length_singleton] at *
    have e1 : decide ((0:Int) < ((L (zs ++ [z])).length : Int)) = true := by simp [L_length]
    rw [e1]
    refine mvd ?_
    refine mvd ?_
    refine ln ?_ (L_sz _) l32
    refine su zs.length ?_ ?_
    · simp [L_length]; omega
    refine ix zs.length ?_ rfl (L_at (xs := zs ++ [z]) (n := z) (by simp)) rfl s32
    refine ldp ?_ a32
    refine bi ?_
    refine pkd ?_
    refine rn ?_
    by_cases hz : z = 0
    · subst hz
      refine cndt ?_
      refine .skip ?_
      show AW _ _ _ _ _ _
      refine .block (.region ?_)
      refine mvd ?_
      refine mvd ?_
      refine ln ?_ (L_sz _) l32
      refine su zs.length ?_ ?_
      · simp [L_length]; omega
      refine mvd ?_
      refine ln ?_ (L_sz _) l32
      refine su zs.length ?_ ?_
      · simp [L_length]; omega
      refine sl 0 zs.length ?_ ?_ (L_sz1 _) s32
      · simp [L_length]; omega
      refine asd ?_
      refine .nil ?_
      refine AL.gh (Gh.keep [0] rfl) ?_
      have := ih zs ⟨by rw [← hI, cutL_zero], by omega⟩ (by omega)
      have e2 : ((L (zs ++ [0])).drop 0).take (zs.length - 0) = L zs := by simp [L_append, ← L_length zs]
      rw [e2]
      exact this
    · have e2 : decide ((z : Int) = 0) = false := by simp; omega
      rw [e2]
      refine cndf ?_
      refine .exit ?_
      show AW _ _ _ _ _ _
      refine .seq (.region ?_)
      refine mvd ?_
      refine asd ?_
      refine rn ?_
      refine .ret ?_
      exact ⟨by rw [← hI, cutL_pos _ hz]; rfl, rfl⟩
end Go.FL
/-
  slices.Clone, nat.Trim, nat.Of, nat.Right, glyphref01's Trim, Of, Right, and what is small.
-/
namespace Go.FL
open Go Go.Proofs

theorem z32p : 0 < szOf Try.prog 49 := by rw [z32]; decide
theorem cut_val {a : List Nat} (h : Ok a) (hl : a.length ≤ 35184372087808) : Fn Try.prog 46 [.sl (L a)] (.d (.sl (L (digs (val a))))) := by
  have := cut_fn a (by omega)
  rwa [cutL_val h] at this
theorem clone_fn (a : List Nat) (hl : a.length ≤ 35184372087808) : Fn Try.prog 58 [.sl (L a)] (.own 49 (L a)) := by
  refine Fn.of (rs := [.tmp 2]) (nt := 8) Try.func58 rfl rfl rfl (by simp) rfl ?_
  refine .seq ?_
  refine .region ?_
  refine asn ?_
  refine rn ?_
  refine .seq ?_
  refine .seq ?_
  refine .region ?_
  refine mvd ?_
  refine nq (fun b hb => ?_) (L_sz _) l32
  refine rn ?_
  refine cnd (fun hc => ?_) (fun hc => ?_)
  · simp only [if_true] at hc
    have h0 : L a = [] := by
      apply Classical.byContradiction
      intro h; rw [hb h] at hc; cases hc
    refine .seq ?_
    refine .region ?_
    refine asn ?_
    refine rn ?_
    refine .gh (Gh.nlOwn (t := 2) 49 z32p rfl) ?_
    refine .ret ?_
    exact ⟨by rw [h0]; rfl, rfl⟩
  · refine .skip ?_
    show AW _ _ _ _ _ _
    refine .seq ?_
    refine .region ?_
    refine bsl ?_ ?_ e32
    · simp
    refine mvd ?_
    refine apo ?_ ?_ (L_sz1 _) e32
    · simp [L_length]; omega
    refine aso ?_
    refine rn ?_
    refine .ret ?_
    exact ⟨rfl, rfl⟩
theorem Trim_fn {a : List Nat} (h : Ok a) (hl : a.length ≤ 35184372087808) : Fn Try.prog 26 [.sl (L a)] (.own 49 (L (digs (val a)))) := by
  have hd := digs_len_le h
  refine Fn.of (rs := [.tmp 2]) (nt := 6) Try.func26 rfl rfl rfl (by simp) rfl ?_
  refine .seq ?_
  refine .region ?_
  refine asn ?_
  refine rn ?_
  refine .seq ?_
  refine .region ?_
  refine mvd ?_
  refine cl ?_ (cut_val h hl) Try.call46
  refine cl ?_ (clone_fn (digs (val a)) (by omega)) Try.call58
  refine aso ?_
  refine rn ?_
  refine .ret ?_
  exact ⟨rfl, rfl⟩
theorem Right_fn {a : List Nat} (h : Ok a) (hl : a.length ≤ 35184372087808) : Fn Try.prog 24 [.sl (L a)] (.d (.b (decide (digs (val a) = a)))) := by
  have hd := digs_len_le h
  refine Fn.of (rs := [.tmp 2]) (nt := 9) Try.func24 rfl rfl rfl (by simp) rfl ?_
  refine .seq ?_
  refine .region ?_
  refine asd ?_
  refine rn ?_
  refine .seq ?_
  refine .region ?_
  refine mvd ?_
  refine ln ?_ (L_sz _) l32
  refine mvd ?_
  refine cl ?_ (cut_val h hl) Try.call46
  refine ln ?_ (L_sz _) l32
  refine bi ?_
  refine asd ?_
  refine rn ?_
  refine .ret ?_
  refine ⟨?_, rfl⟩
  show AV.d (.b (decide (((L a).length : Int) = ((L (digs (val a))).length : Int)))) = _
  congr 2
  simp only [L_length, decide_eq_decide]
  rw [← digs_eq_iff h]; omega
/-- The low and the high limb of a number below 2^64. -/
theorem two_limbs {n : Nat} (h : n < 18446744073709551616) : val [n % 4294967296, n / 4294967296] = n ∧ Ok [n % 4294967296, n / 4294967296] := by
  refine ⟨by simp only [val]; omega, ?_⟩
  exact .cons (Nat.mod_lt _ (by decide)) (.cons (by omega) .nil)
theorem wrapU32 (n : Nat) : IntKind.u32.wrap (n : Int) = ((n % 4294967296 : Nat) : Int) := by
  simp only [IntKind.wrap, IntKind.bits, IntKind.signed]
  simp
theorem Of_fn {n : Nat} (h : n < 18446744073709551616) : Fn Try.prog 28 [.i .u64 n] (.d (.sl (L (digs n)))) := by
  obtain ⟨h1, h2⟩ := two_limbs h
  refine Fn.of (rs := [.tmp 2]) (nt := 10) Try.func28 rfl rfl rfl (by simp) rfl ?_
  refine .seq ?_
  refine .region ?_
  refine asn ?_
  refine rn ?_
  refine .seq ?_
  refine .region ?_
  refine mvd ?_
  refine cve ((n % 4294967296 : Nat) : Int) (wrapU32 n) ?_ u64 u32
  refine mvd ?_
  refine bie (.i .u64 ((n / 4294967296 : Nat) : Int)) ?_ ?_
  · simp [IntKind.bits]
  refine cve ((n / 4294967296 : Nat) : Int) (by rw [wrapU32, Nat.mod_eq_of_lt]; omega) ?_ u64 u32
  refine bsl ?_ ?_ e32
  · simp [DV.flat, DV.cells, DV.leaf]
  refine fz (p := .t 8) ?_
  refine cl (xs := [.sl (L [n % 4294967296, n / 4294967296])]) ?_ (cut_val h2 (by simp)) Try.call46
  refine asd ?_
  refine rn ?_
  refine .ret ?_
  exact ⟨by rw [h1]; rfl, rfl⟩
end Go.FL
/-
  glyphref01's Trim, Of, Right, limb, Same; the law's few.
-/
namespace Go.FL
open Go Go.Proofs

theorem refTrim_fn {a : List Nat} (h : Ok a) (hl : a.length ≤ 35184372087808) : Fn Try.prog 27 [.sl (L a)] (.own 49 (L (digs (val a)))) := by
  refine Fn.of (rs := [.tmp 2]) (nt := 24) Try.func27 rfl rfl rfl (by simp) rfl ?_
  refine .seq ?_
  refine .region ?_
  refine asn ?_
  refine rn ?_
  refine .seq ?_
  refine .region ?_
  refine mvd ?_
  refine ln ?_ (L_sz _) l32
  refine asd ?_
  refine rn ?_
  refine .seq ?_
  refine .block ?_
  refine .loop (.gh (Gh.keep [0, 3] rfl) ?_)
  refine AL.ind (σ := Nat) (m := fun n => n) (e := fun n => [(0, .d (.sl (L a))), (3, .d (.i .i64 n))]) (h := fun _ => []) (I := fun n => n ≤ a.length ∧ cutL (a.take n) = cutL a) ?_ (L a).length ⟨by simp [L_length], by rw [L_length, List.take_length]⟩
  intro n ⟨hn, hc⟩ ih
  -- behind the loop
  have fin : ∀ (Q : Exit → Env → Heap → Prop), cutL (a.take n) = a.take n → True := fun _ _ => trivial
  refine .seq ?_
  refine .seq ?_
  refine .region ?_
  refine mvd ?_
  refine bi ?_
  refine mvd ?_
  by_cases hz : 0 < n ∧ a[n-1]? = some 0
  · obtain ⟨h0, h1⟩ := hz
    rw [decide_eq_true (show (0:Int) < (n:Int) by omega)]
    refine mvd ?_
    refine mvd ?_
    refine su ((n - 1 : Nat) : Int) ?_ ?_
    · omega
    refine ix (n - 1) ?_ rfl (L_at h1) rfl s32
    refine ldp ?_ a32
    refine bi ?_
    refine pkd ?_
    refine rn ?_
    refine cndt ?_
    refine .skip ?_
    show AW _ _ _ _ _ _
    refine .block ?_
    refine .region ?_
    refine mvd ?_
    refine su ((n - 1 : Nat) : Int) ?_ ?_
    · omega
    refine asd ?_
    refine .nil ?_
    refine AL.gh (Gh.keep [0, 3] rfl) (ih (n - 1) ⟨by omega, ?_⟩ (by omega))
    rw [← hc]
    have : a.take n = a.take (n - 1) ++ [0] := by
      have := List.take_add_one (l := a) (i := n - 1)
      rw [h1] at this
      rw [show n - 1 + 1 = n by omega] at this
      simpa using this
    rw [this, cutL_zero]
  · have hfin : cutL a = a.take n := by
      rw [← hc]
      rcases Nat.eq_zero_or_pos n with rfl | h0
      · simp [cutL]
      · obtain ⟨x, hx⟩ : ∃ x, a[n-1]? = some x := ⟨_, List.getElem?_eq_getElem (by omega)⟩
        have hx0 : x ≠ 0 := fun e => hz ⟨h0, by rw [hx, e]⟩
        have : a.take n = a.take (n - 1) ++ [x] := by
          have := List.take_add_one (l := a) (i := n - 1)
          rw [hx] at this
          rw [show n - 1 + 1 = n by omega] at this
          simpa using this
        rw [this, cutL_pos _ hx0]
    refine RL.gh (Gh.keep [0, 3, 8, 9] rfl) ?_
    have tail : ∀ e : Env, get e 0 = .d (.sl (L a)) → get e 3 = .d (.i .i64 n) → get e 16 = .d (.b false) → True := fun _ _ _ _ => trivial
    by_cases h0 : 0 < n
    · obtain ⟨x, hx⟩ : ∃ x, a[n-1]? = some x := ⟨_, List.getElem?_eq_getElem (by omega)⟩
      have hx0 : x ≠ 0 := fun e => hz ⟨h0, by rw [hx, e]⟩
      rw [decide_eq_true (show (0:Int) < (n:Int) by omega)]
      refine mvd ?_
      refine mvd ?_
      refine su ((n - 1 : Nat) : Int) ?_ ?_
      · omega
      refine ix (n - 1) ?_ rfl (L_at hx) rfl s32
      refine ldp ?_ a32
      refine bi ?_
      refine pkd ?_
      refine rn ?_
      rw [decide_eq_false (show ¬ (x:Int) = 0 by omega)]
      refine cndf ?_
      refine .exit ?_
      show AW _ _ _ _ _ _
      refine .gh (Gh.keep [0, 3] rfl) ?_
      refine .seq ?_
      refine .region ?_
      refine asn ?_
      refine rn ?_
      refine .seq ?_
      refine .region ?_
      refine mvn ?_
      refine mvd ?_
      refine mvd ?_
      refine sl 0 n ?_ ?_ (L_sz1 _) s32
      · simp [L_length]; omega
      rw [List.drop_zero, Nat.sub_zero, L_take, ← hfin, cutL_val h]
      refine apn ?_ ?_ (L_sz1 _) e32
      · have := digs_len_le h; simp [L_length]; omega
      refine aso ?_
      refine rn ?_
      refine .ret ?_
      exact ⟨rfl, rfl⟩
    · obtain rfl : n = 0 := by omega
      repeat refine gf ?_
      refine pkd ?_
      refine rn ?_
      refine cndf ?_
      refine .exit ?_
      show AW _ _ _ _ _ _
      refine .gh (Gh.keep [0, 3] rfl) ?_
      refine .seq ?_
      refine .region ?_
      refine asn ?_
      refine rn ?_
      refine .seq ?_
      refine .region ?_
      refine mvn ?_
      refine mvd ?_
      refine mvd ?_
      refine sl 0 0 ?_ ?_ (L_sz1 _) s32
      · simp
      rw [List.drop_zero, Nat.sub_zero, L_take, ← hfin, cutL_val h]
      refine apn ?_ ?_ (L_sz1 _) e32
      · have := digs_len_le h; simp [L_length]; omega
      refine aso ?_
      refine rn ?_
      refine .ret ?_
      exact ⟨rfl, rfl⟩
end Go.FL
/-
  glyphref01's limb, Same, Of, Right; the law's few.
-/
namespace Go.FL
open Go Go.Proofs

theorem U_cells (n : Nat) : (U n).cells = [U n] := rfl
theorem toU64 {n : Nat} (h : n < 18446744073709551616) : IntKind.u64.wrap (n : Int) = n := by
  simp only [IntKind.wrap, IntKind.bits, IntKind.signed]
  simp; omega
theorem toU32 {n : Nat} (h : n < 4294967296) : IntKind.u32.wrap (n : Int) = n := by
  rw [wrapU32, Nat.mod_eq_of_lt h]
theorem limb_fn {a : List Nat} (h : Ok a) {i : Nat} (hi : i < 9223372036854775807) : Fn Try.prog 65 [.sl (L a), .i .i64 i] (.d (.i .u64 (a.getD i 0 : Nat))) := by
  refine Fn.of (rs := [.tmp 4]) (nt := 14) Try.func65 rfl rfl rfl (by simp) rfl ?_
  refine .seq ?_
  refine .region ?_
  refine asd ?_
  refine rn ?_
  refine .seq ?_
  refine .seq ?_
  refine .region ?_
  refine mvd ?_
  refine mvd ?_
  refine ln ?_ (L_sz _) l32
  refine bi ?_
  refine rn ?_
  by_cases hl : i < a.length
  · rw [decide_eq_true (show (i:Int) < ((L a).length : Int) by rw [L_length]; omega)]
    have hx : a[i]? = some a[i] := List.getElem?_eq_getElem hl
    refine cndt ?_
    refine .seq ?_
    refine .region ?_
    refine mvd ?_
    refine mvd ?_
    refine ix i ?_ rfl (L_at hx) rfl s32
    refine ldp ?_ a32
    refine cve ((a[i] : Nat) : Int) (toU64 (by have := h.at hx; omega)) ?_ u32 u64
    refine asd ?_
    refine rn ?_
    refine .ret ?_
    exact ⟨by rw [List.getD_eq_getElem?_getD, hx]; rfl, rfl⟩
  · rw [decide_eq_false (show ¬ (i:Int) < ((L a).length : Int) by rw [L_length]; omega)]
    refine cndf ?_
    refine .skip ?_
    show AW _ _ _ _ _ _
    refine .seq ?_
    refine .region ?_
    refine asd ?_
    refine rn ?_
    refine .ret ?_
    exact ⟨by rw [List.getD_eq_getElem?_getD, List.getElem?_eq_none (by omega)]; rfl, rfl⟩
theorem few_fn (a : List Nat) : Fn Try.prog 16 [.sl (L a)] (.d (.sl (L (a.take 40)))) := by
  refine Fn.of (rs := [.tmp 2]) (nt := 9) Try.func16 rfl rfl rfl (by simp) rfl ?_
  refine .seq ?_
  refine .region ?_
  refine asn ?_
  refine rn ?_
  refine .seq ?_
  refine .seq ?_
  refine .region ?_
  refine mvd ?_
  refine ln ?_ (L_sz _) l32
  refine bi ?_
  refine rn ?_
  by_cases hl : 40 < a.length
  · rw [decide_eq_true (show (40:Int) < ((L a).length : Int) by rw [L_length]; omega)]
    refine cndt ?_
    refine .seq ?_
    refine .region ?_
    refine mvd ?_
    refine sl 0 40 ?_ ?_ (L_sz1 _) s32
    · simp [L_length]; omega
    refine asd ?_
    refine rn ?_
    refine .ret ?_
    exact ⟨by rw [← L_take]; rfl, rfl⟩
  · rw [decide_eq_false (show ¬ (40:Int) < ((L a).length : Int) by rw [L_length]; omega)]
    refine cndf ?_
    refine .skip ?_
    show AW _ _ _ _ _ _
    refine .seq ?_
    refine .region ?_
    refine mvd ?_
    refine asd ?_
    refine rn ?_
    refine .ret ?_
    exact ⟨by rw [List.take_of_length_le (by omega)]; rfl, rfl⟩
theorem refOf_fn {n : Nat} (h : n < 18446744073709551616) : Fn Try.prog 29 [.i .u64 n] (.own 49 (L (digs n))) := by
  obtain ⟨h1, h2⟩ := two_limbs h
  refine Fn.of (rs := [.tmp 2]) (nt := 10) Try.func29 rfl rfl rfl (by simp) rfl ?_
  refine .seq ?_
  refine .region ?_
  refine asn ?_
  refine rn ?_
  refine .seq ?_
  refine .region ?_
  refine mvd ?_
  refine cve ((n % 4294967296 : Nat) : Int) (wrapU32 n) ?_ u64 u32
  refine mvd ?_
  refine bie (.i .u64 ((n / 4294967296 : Nat) : Int)) ?_ ?_
  · simp [IntKind.bits]
  refine cve ((n / 4294967296 : Nat) : Int) (by rw [wrapU32, Nat.mod_eq_of_lt]; omega) ?_ u64 u32
  refine bsl ?_ ?_ e32
  · simp [DV.flat, DV.cells, DV.leaf]
  refine fz (p := .t 8) ?_
  refine cl (xs := [.sl (L [n % 4294967296, n / 4294967296])]) ?_ (refTrim_fn h2 (by simp)) Try.call27
  refine aso ?_
  refine rn ?_
  refine .ret ?_
  exact ⟨by rw [h1]; rfl, rfl⟩
theorem Same_fn (a b : List Nat) (hl : a.length ≤ 1048576) : Fn Try.prog 18 [.sl (L a), .sl (L b)] (.d (.b (decide (a = b)))) := by
  refine Fn.of (rs := [.tmp 4]) (nt := 26) Try.func18 rfl rfl rfl (by simp) rfl ?_
  refine .seq ?_
  refine .region ?_
  refine asd ?_
  refine rn ?_
  refine .seq ?_
  refine .seq ?_
  refine .region ?_
  refine mvd ?_
  refine ln ?_ (L_sz _) l32
  refine mvd ?_
  refine ln ?_ (L_sz _) l32
  refine bi ?_
  refine rn ?_
  by_cases hlen : a.length = b.length
  · have e1 : (!decide (((L a).length : Int) = ((L b).length : Int))) = false := by simp [L_length]; omega
    rw [e1]
    refine cndf ?_
    refine .skip ?_
    show AW _ _ _ _ _ _
    refine .mid (fun e H' => e = [(0, .d (.sl (L a))), (1, .d (.sl (L b)))] ∧ a = b) ?_ ?_
    · refine .seq ?_
      refine .region ?_
      refine asd ?_
      refine rn ?_
      refine .block ?_
      refine .loop (.gh (Gh.keep [0, 1, 5] rfl) ?_)
      refine AL.ind (σ := Nat) (m := fun i => a.length - i) (e := fun i => [(0, .d (.sl (L a))), (1, .d (.sl (L b))), (5, .d (.i .i64 i))]) (h := fun _ => []) (I := fun i => i ≤ a.length ∧ a.take i = b.take i) ?_ 0 ⟨by omega, by simp⟩
      intro i ⟨hi, hc⟩ ih
      refine .seq ?_
      refine .seq ?_
      refine .region ?_
      refine mvd ?_
      refine mvd ?_
      refine ln ?_ (L_sz _) l32
      refine bi ?_
      refine rn ?_
      by_cases hil : i < a.length
      · rw [decide_eq_true (show (i:Int) < ((L a).length : Int) by rw [L_length]; omega)]
        have hx : a[i]? = some a[i] := List.getElem?_eq_getElem hil
        have hy : b[i]? = some b[i] := List.getElem?_eq_getElem (by omega)
        refine cndt ?_
        refine .skip ?_
        show AW _ _ _ _ _ _
        refine .gh (Gh.keep [0, 1, 5] rfl) ?_
        refine .seq ?_
        refine .block ?_
        refine .seq ?_
        refine .drawn 9 mixed (by kernel_rfl) ?_
        refine dv vmvd ?_
        refine dv vmvd ?_
        refine dv (vix i rfl (L_at hx) rfl s32) ?_
        refine dv (vldp a32) ?_
        refine dv vmvd ?_
        refine dv vmvd ?_
        refine dv (vix i rfl (L_at hy) rfl s32) ?_
        refine dv (vldp a32) ?_
        refine dv vbi ?_
        refine dz ?_
        refine rn ?_
        by_cases hxy : a[i] = b[i]
        · have e2 : (!decide (((a[i] : Nat) : Int) = ((b[i] : Nat) : Int))) = false := by simp; omega
          rw [e2]
          refine cndf ?_
          refine .skip ?_
          show AW _ _ _ _ _ _
          refine .region ?_
          refine mvd ?_
          refine ad ((i + 1 : Nat) : Int) ?_ ?_
          · omega
          refine asd ?_
          refine .nil ?_
          refine AL.gh (Gh.keep [0, 1, 5] rfl) (ih (i + 1) ⟨by omega, ?_⟩ (by omega))
          rw [List.take_add_one, List.take_add_one, hc, hx, hy, hxy]
        · have e2 : (!decide (((a[i] : Nat) : Int) = ((b[i] : Nat) : Int))) = true := by simp; omega
          rw [e2]
          refine cndt ?_
          refine .seq ?_
          refine .region ?_
          refine asd ?_
          refine rn ?_
          refine .ret ?_
          have : a ≠ b := fun e => hxy (by subst e; rfl)
          exact ⟨by rw [decide_eq_false this]; rfl, rfl⟩
      · rw [decide_eq_false (show ¬ (i:Int) < ((L a).length : Int) by rw [L_length]; omega)]
        refine cndf ?_
        refine .gh (Gh.keep [0, 1] rfl) ?_
        refine .exit ?_
        refine ⟨rfl, ?_⟩
        rwa [List.take_of_length_le (by omega), List.take_of_length_le (by omega)] at hc
    · rintro _ _ ⟨rfl, rfl⟩
      refine .seq ?_
      refine .region ?_
      refine asd ?_
      refine rn ?_
      refine .ret ?_
      exact ⟨by rw [decide_eq_true rfl]; rfl, rfl⟩
  · have e1 : (!decide (((L a).length : Int) = ((L b).length : Int))) = true := by simp [L_length]; omega
    rw [e1]
    refine cndt ?_
    refine .seq ?_
    refine .region ?_
    refine asd ?_
    refine rn ?_
    refine .ret ?_
    have : a ≠ b := fun e => hlen (by rw [e])
    exact ⟨by rw [decide_eq_false this]; rfl, rfl⟩
end Go.FL
/-
  math/bits: Len32, LeadingZeros32; Bits, of nat and of glyphref01.
-/
namespace Go.FL
open Go Go.Proofs

/-- How many bits a number has. -/
def bitsN (n : Nat) : Nat := if n = 0 then 0 else n.log2 + 1
theorem bitsN_iff {n k : Nat} : bitsN n ≤ k ↔ n < 2 ^ k := by
  unfold bitsN; split
  · rename_i h; subst h; simp [Nat.two_pow_pos]
  · rename_i h; rw [← Nat.log2_lt h]; omega
theorem bitsN_eq {n k : Nat} (h1 : 2 ^ k ≤ n) (h2 : n < 2 ^ (k + 1)) : bitsN n = k + 1 := by
  have a := bitsN_iff.2 h2
  have b : ¬ bitsN n ≤ k := fun h => by have := bitsN_iff.1 h; omega
  omega
theorem bitsN_pos {n : Nat} (h : n ≠ 0) : ∃ k, bitsN n = k + 1 ∧ 2 ^ k ≤ n ∧ n < 2 ^ (k + 1) := by
  refine ⟨n.log2, by simp [bitsN, h], Nat.log2_self_le h, Nat.lt_log2_self⟩
theorem bitsN_shift {n m : Nat} (h : 2 ^ m ≤ n) : bitsN n = m + bitsN (n / 2 ^ m) := by
  have hp : 0 < 2 ^ m := Nat.two_pow_pos m
  have h0 : n / 2 ^ m ≠ 0 := by have := Nat.div_pos h hp; omega
  obtain ⟨k, h1, h2, h3⟩ := bitsN_pos h0
  rw [h1]
  rw [show m + (k + 1) = (m + k) + 1 by omega]
  refine bitsN_eq ?_ ?_
  · rw [Nat.pow_add, Nat.mul_comm]
    exact (Nat.le_div_iff_mul_le hp).1 h2
  · rw [show m + k + 1 = (k + 1) + m by omega, Nat.pow_add]
    exact (Nat.div_lt_iff_lt_mul hp).1 h3
theorem tab_of {l : List UInt8} (n : Nat) (h : n < 256) (hl : (List.range 256).map (fun n => (bitsN n).toUInt8) = l) : l[n]? = some (bitsN n).toUInt8 := by
  subst hl; simp [h]
theorem wrapU8 {n : Nat} (h : n < 256) : IntKind.u8.wrap (n : Int) = n := by
  simp only [IntKind.wrap, IntKind.bits, IntKind.signed]
  simp; omega
theorem Len32_fn {n : Nat} (h : n < 4294967296) : Fn Try.prog 67 [.i .u32 n] (.d (.i .i64 (bitsN n))) := by
  refine Fn.of (rs := [.tmp 2]) (nt := 19) Try.func67 rfl rfl rfl (by simp) rfl ?_
  refine .seq ?_
  refine .region ?_
  refine asd ?_
  refine rn ?_
  refine .mid (fun e H' => ∃ y k : Nat, e = [(0, .d (.i .u32 y)), (2, .d (.i .i64 k))] ∧ y < 65536 ∧ k ≤ 16 ∧ bitsN n = k + bitsN y) ?_ ?_
  · refine .seq ?_
    refine .region ?_
    refine mvd ?_
    refine bi ?_
    refine rn ?_
    by_cases hc : 65536 ≤ n
    · rw [decide_eq_true (show (65536:Int) ≤ (n:Int) by omega)]
      refine cndt ?_
      refine .seq ?_
      refine .region ?_
      refine mvd ?_
      refine bie (.i .u32 ((n / 65536 : Nat) : Int)) ?_ ?_
      · simp [IntKind.bits]
      refine asd ?_
      refine rn ?_
      refine .region ?_
      refine asd ?_
      refine RL.gh (Gh.keep [0, 2] rfl) ?_
      refine rn ?_
      exact ⟨n / 65536, 16, rfl, by omega, by omega, bitsN_shift (m := 16) (by omega)⟩
    · rw [decide_eq_false (show ¬ (65536:Int) ≤ (n:Int) by omega)]
      refine cndf ?_
      refine .gh (Gh.keep [0, 2] rfl) ?_
      refine .skip ?_
      exact ⟨n, 0, rfl, by omega, by omega, by omega⟩
  rintro _ _ ⟨y, k, rfl, hy, hk, e1⟩
  refine .mid (fun e H' => ∃ z j : Nat, e = [(0, .d (.i .u32 z)), (2, .d (.i .i64 j))] ∧ z < 256 ∧ j ≤ 24 ∧ bitsN n = j + bitsN z) ?_ ?_
  · refine .seq ?_
    refine .region ?_
    refine mvd ?_
    refine bi ?_
    refine rn ?_
    by_cases hc : 256 ≤ y
    · rw [decide_eq_true (show (256:Int) ≤ (y:Int) by omega)]
      refine cndt ?_
      refine .seq ?_
      refine .region ?_
      refine mvd ?_
      refine bie (.i .u32 ((y / 256 : Nat) : Int)) ?_ ?_
      · simp [IntKind.bits]
      refine asd ?_
      refine rn ?_
      refine .region ?_
      refine mvd ?_
      refine ad ((k + 8 : Nat) : Int) ?_ ?_
      · omega
      refine asd ?_
      refine RL.gh (Gh.keep [0, 2] rfl) ?_
      refine rn ?_
      exact ⟨y / 256, k + 8, rfl, by omega, by omega, by rw [e1, bitsN_shift (m := 8) (by omega)]; simp; omega⟩
    · rw [decide_eq_false (show ¬ (256:Int) ≤ (y:Int) by omega)]
      refine cndf ?_
      refine .gh (Gh.keep [0, 2] rfl) ?_
      refine .skip ?_
      exact ⟨y, k, rfl, by omega, by omega, e1⟩
  rintro _ _ ⟨z, j, rfl, hz, hj, e2⟩
  have hb : bitsN z ≤ 8 := bitsN_iff.2 (by omega)
  refine .seq ?_
  refine .region ?_
  refine mvd ?_
  refine mvd ?_
  refine cve (z : Int) (wrapU8 hz) ?_ u32 u8
  refine ids (b := (bitsN z).toUInt8) z rfl ?_ ?_ st
  · exact tab_of z hz (by kernel_rfl)
  have e3 : ((bitsN z).toUInt8).toNat = bitsN z := by simp; omega
  rw [e3]
  refine cve ((bitsN z : Nat) : Int) (wrap64 (by omega) (by omega)) ?_ u8 i64
  refine ad ((bitsN n : Nat) : Int) ?_ ?_
  · omega
  refine asd ?_
  refine rn ?_
  refine .ret ?_
  exact ⟨rfl, rfl⟩
theorem LeadingZeros32_fn {n : Nat} (h : n < 4294967296) : Fn Try.prog 48 [.i .u32 n] (.d (.i .i64 ((32 - bitsN n : Nat) : Int))) := by
  have hb : bitsN n ≤ 32 := bitsN_iff.2 (by omega)
  refine Fn.of (rs := [.tmp 2]) (nt := 6) Try.func48 rfl rfl rfl (by simp) rfl ?_
  refine .seq ?_
  refine .region ?_
  refine asd ?_
  refine rn ?_
  refine .seq ?_
  refine .region ?_
  refine mvd ?_
  refine cl ?_ (Len32_fn h) Try.call67
  refine su ((32 - bitsN n : Nat) : Int) ?_ ?_
  · omega
  refine asd ?_
  refine rn ?_
  refine .ret ?_
  exact ⟨rfl, rfl⟩
end Go.FL
/-
  nat.Bits; math/bits.Div32; nat.small.
-/
namespace Go.FL
open Go Go.Proofs

theorem pow32 (n : Nat) : 4294967296 ^ n = 2 ^ (32 * n) := by rw [Nat.pow_mul]
theorem bitsN_val {b : List Nat} {x : Nat} (h : Ok b) (hx : x ≠ 0) : bitsN (val (b ++ [x])) = 32 * b.length + bitsN x := by
  obtain ⟨k, h1, h2, h3⟩ := bitsN_pos hx
  have hv := val_lt h
  rw [h1, val_append, ← Nat.add_assoc]
  simp only [val]
  rw [pow32] at hv ⊢
  have hp := Nat.two_pow_pos (32 * b.length)
  refine bitsN_eq ?_ ?_
  · rw [Nat.pow_add]
    have := Nat.mul_le_mul_left (2 ^ (32 * b.length)) h2
    simp only [Nat.mul_zero, Nat.add_zero]; omega
  · rw [show 32 * b.length + k + 1 = 32 * b.length + (k + 1) by omega, Nat.pow_add]
    have := Nat.mul_le_mul_left (2 ^ (32 * b.length)) (Nat.succ_le_of_lt h3)
    rw [Nat.mul_succ] at this
    simp only [Nat.mul_zero, Nat.add_zero]; omega
theorem digs_split {n : Nat} (h : n ≠ 0) : ∃ b x, digs n = b ++ [x] ∧ x ≠ 0 ∧ Ok b ∧ x < 4294967296 := by
  rcases List.eq_nil_or_concat (digs n) with h0 | ⟨b, x, h0⟩
  · rw [digs_pos h] at h0; cases h0
  · rw [List.concat_eq_append] at h0
    have ho := digs_ok n
    rw [h0] at ho
    exact ⟨b, x, h0, top_digs n x (by rw [h0]; simp), ho.left, ho.right x (by simp)⟩
theorem digs_nil_iff {n : Nat} : digs n = [] ↔ n = 0 := by
  constructor
  · intro h
    apply Classical.byContradiction
    intro h0; rw [digs_pos h0] at h; cases h
  · rintro rfl; exact digs_zero
theorem Bits_fn {a : List Nat} (h : Ok a) (hl : a.length ≤ 1048576) : Fn Try.prog 32 [.sl (L a)] (.d (.i .i64 (bitsN (val a)))) := by
  have hd := digs_len_le h
  refine Fn.of (rs := [.tmp 2]) (nt := 19) Try.func32 rfl rfl rfl (by simp) rfl ?_
  refine .seq ?_
  refine .region ?_
  refine asd ?_
  refine rn ?_
  refine .seq ?_
  refine .region ?_
  refine mvd ?_
  refine cl ?_ (cut_val h (by omega)) Try.call46
  refine asd ?_
  refine rn ?_
  refine .seq ?_
  refine .seq ?_
  refine .region ?_
  refine mvd ?_
  refine ln ?_ (L_sz _) l32
  refine bi ?_
  refine rn ?_
  by_cases hz : val a = 0
  · rw [hz, digs_zero]
    refine cndt ?_
    refine .seq ?_
    refine .region ?_
    refine asd ?_
    refine rn ?_
    refine .ret ?_
    exact ⟨rfl, rfl⟩
  · obtain ⟨b, x, e1, hx, hb, hxl⟩ := digs_split hz
    have hval : bitsN (val a) = 32 * b.length + bitsN x := by rw [← bitsN_val hb hx, ← e1, val_digs]
    have hlx : bitsN x ≤ 32 := bitsN_iff.2 (by omega)
    rw [e1] at hd ⊢
    simp only [List.length_append, List.length_singleton] at hd
    rw [decide_eq_false (show ¬ ((L (b ++ [x])).length : Int) = 0 by simp [L_length]; omega)]
    refine cndf ?_
    refine .skip ?_
    show AW _ _ _ _ _ _
    refine .seq ?_
    refine .region ?_
    refine mvd ?_
    refine ln ?_ (L_sz _) l32
    refine ml ((32 * (b.length + 1) : Nat) : Int) ?_ ?_
    · simp [L_length]; omega
    refine mvd ?_
    refine mvd ?_
    refine ln ?_ (L_sz _) l32
    refine su (b.length : Int) ?_ ?_
    · simp [L_length]; omega
    refine ix b.length ?_ rfl (L_at (xs := b ++ [x]) (n := x) (by simp)) rfl s32
    refine ldp ?_ a32
    refine cl ?_ (LeadingZeros32_fn hxl) Try.call48
    refine su ((bitsN (val a) : Nat) : Int) ?_ ?_
    · omega
    refine asd ?_
    refine rn ?_
    refine .ret ?_
    exact ⟨rfl, rfl⟩
theorem wraps_u64 (n : Int) (h₀ : 0 ≤ n) (h₁ : n < 2 ^ 64) : IntKind.u64.wrap n = n := by
  simp only [IntKind.wrap, IntKind.bits, IntKind.signed]; simp; omega
theorem wraps_u32 (n : Int) (h₀ : 0 ≤ n) (h₁ : n < 2 ^ 32) : IntKind.u32.wrap n = n := by
  simp only [IntKind.wrap, IntKind.bits, IntKind.signed]; simp; omega
theorem u64_join {x y : Nat} (hx : x < 4294967296) (hy : y < 4294967296) : bits .or .u64 ((x * 4294967296 : Nat) : Int) (y : Int) = ((x * 4294967296 + y : Nat) : Int) := by
  rw [bits_join .u64 64 (by decide) wraps_u64 32 ((x * 4294967296 : Nat) : Int) (y : Int) (by omega) (by omega) (by omega) (by omega) (by omega) (by omega)]
  omega
theorem tdiv_nat (n m : Nat) : Int.tdiv (n : Int) (m : Int) = ((n / m : Nat) : Int) := rfl
theorem tmod_nat (n m : Nat) : Int.tmod (n : Int) (m : Int) = ((n % m : Nat) : Int) := rfl
theorem Div32_fn {hi lo y : Nat} (h1 : hi < y) (h2 : lo < 4294967296) (h3 : y < 4294967296) : Fn Try.prog 66 [.i .u32 hi, .i .u32 lo, .i .u32 y]
    (.tup [.d (.i .u32 (((hi * 4294967296 + lo) / y : Nat) : Int)), .d (.i .u32 (((hi * 4294967296 + lo) % y : Nat) : Int))]) := by
  have hq : (hi * 4294967296 + lo) / y < 4294967296 := by
    rw [Nat.div_lt_iff_lt_mul (by omega)]
    have : hi * 4294967296 + 4294967296 ≤ y * 4294967296 := by rw [← Nat.succ_mul]; exact Nat.mul_le_mul_right _ h1
    omega
  have hr : (hi * 4294967296 + lo) % y < 4294967296 := by have := Nat.mod_lt (hi * 4294967296 + lo) (show 0 < y by omega); omega
  refine Fn.of (rs := [.tmp 6, .tmp 7]) (nt := 33) Try.func66 rfl rfl rfl (by simp) rfl ?_
  refine .seq ?_
  refine .region ?_
  refine asd ?_
  refine asd ?_
  refine rn ?_
  refine .seq ?_
  refine .seq ?_
  refine .region ?_
  refine mvd ?_
  refine bi ?_
  refine mvd ?_
  have e1 : (!decide ((y:Int) = 0)) = true := by simp; omega
  rw [e1]
  refine mvd ?_
  refine mvd ?_
  refine bi ?_
  rw [decide_eq_false (show ¬ ((y:Int) ≤ (hi:Int)) by omega)]
  refine pkd ?_
  refine rn ?_
  refine cndf ?_
  refine .skip ?_
  show AW _ _ _ _ _ _
  refine .seq ?_
  refine .region ?_
  refine mvd ?_
  refine cve (hi : Int) (toU64 (by omega)) ?_ u32 u64
  refine bie (.i .u64 ((hi * 4294967296 : Nat) : Int)) ?_ ?_
  · refine ⟨by decide, ?_⟩
    rw [show min (32 : Int).toNat IntKind.u64.bits = 32 from rfl, wraps_u64 _ (by omega) (by omega)]
    simp
  refine mvd ?_
  refine cve (lo : Int) (toU64 (by omega)) ?_ u32 u64
  refine bie (.i .u64 ((hi * 4294967296 + lo : Nat) : Int)) ?_ ?_
  · exact ⟨trivial, by rw [u64_join (by omega) h2]⟩
  refine asd ?_
  refine rn ?_
  refine .seq ?_
  refine .gh (Gh.keep [2, 8] rfl) ?_
  refine .drawn 12 mixed (by kernel_rfl) ?_
  refine dv vmvd ?_
  refine dv vmvd ?_
  refine dv (vcve (y : Int) (toU64 (by omega)) u32 u64) ?_
  refine dv (vbie (.i .u64 (((hi * 4294967296 + lo) / y : Nat) : Int)) ?_) ?_
  · refine ⟨by omega, ?_⟩
    rw [tdiv_nat, toU64 (by omega)]
  refine dv (vcve (((hi * 4294967296 + lo) / y : Nat) : Int) (toU32 hq) u64 u32) ?_
  refine dv vmvd ?_
  refine dv vmvd ?_
  refine dv (vcve (y : Int) (toU64 (by omega)) u32 u64) ?_
  refine dv (vbie (.i .u64 (((hi * 4294967296 + lo) % y : Nat) : Int)) ?_) ?_
  · refine ⟨by omega, ?_⟩
    rw [tmod_nat]
  refine dv (vcve (((hi * 4294967296 + lo) % y : Nat) : Int) (toU32 hr) u64 u32) ?_
  refine dv vasd ?_
  refine dv vasd ?_
  refine dz ?_
  refine rn ?_
  refine .ret ?_
  exact ⟨by decide, rfl, rfl, rfl⟩
end Go.FL
/-
  nat.small: division by one limb.
-/
namespace Go.FL
open Go Go.Proofs

theorem L_set (xs : List Nat) (i n : Nat) : (L xs).set i (U n) = L (xs.set i n) := by simp [L, List.map_set]
theorem L_at' {xs : List Nat} {i n : Nat} (h : xs[i]? = some n) : ∃ x, (L xs)[i]? = some x ∧ x.cells[0]? = some (U n) := ⟨U n, L_at h, rfl⟩
theorem L_leaf {xs : List Nat} {i n : Nat} (h : xs[i]? = some n) : ∃ x, (L xs)[i]? = some x ∧ x.leaf = true := ⟨U n, L_at h, rfl⟩
/-- One round of the division. -/
theorem small_round {ds qs : List Nat} {k x r d : Nat} (hx : ds[k]? = some x) (h : val (ds.drop (k + 1)) = val qs * d + r) :
    val (ds.drop k) = val ((r * 4294967296 + x) / d :: qs) * d + (r * 4294967296 + x) % d := by
  have hk : k < ds.length := (List.getElem?_eq_some_iff.1 hx).1
  have e : ds.drop k = x :: ds.drop (k + 1) := by
    rw [List.drop_eq_getElem_cons hk]
    rw [List.getElem?_eq_getElem hk] at hx; cases hx; rfl
  rw [e, val, h, val]
  have := Nat.div_add_mod (r * 4294967296 + x) d
  generalize (r * 4294967296 + x) / d = q at *
  generalize (r * 4294967296 + x) % d = s at *
  rw [Nat.add_mul, Nat.mul_add, Nat.mul_comm q d]
  have e2 : 4294967296 * (val qs * d) = 4294967296 * val qs * d := by rw [Nat.mul_assoc]
  omega
theorem divmod_of {n q r d : Nat} (h : n = q * d + r) (hr : r < d) : n / d = q ∧ n % d = r := by
  subst h
  have hd : 0 < d := by omega
  constructor
  · rw [Nat.mul_comm, Nat.mul_add_div hd, Nat.div_eq_of_lt hr]; omega
  · rw [Nat.mul_comm, Nat.mul_add_mod, Nat.mod_eq_of_lt hr]
theorem small_fn {a : List Nat} (h : Ok a) (hl : a.length ≤ 1048576) {d : Nat} (hd0 : 0 < d) (hd : d < 4294967296) : Fn Try.prog 47 [.sl (L a), .i .u32 d]
    (.tup [.d (.sl (L (digs (val a / d)))), .d (.sl (L (digs (val a % d))))]) := by
  have hdl := digs_len_le h
  refine Fn.of (rs := [.tmp 4, .tmp 5]) (nt := 35) Try.func47 rfl rfl rfl (by simp) rfl ?_
  refine .seq ?_
  refine .region ?_
  refine asn ?_
  refine asn ?_
  refine rn ?_
  refine .seq ?_
  refine .region ?_
  refine mvd ?_
  refine cl ?_ (Trim_fn h (by omega)) Try.call26
  refine aso ?_
  refine rn ?_
  refine .seq ?_
  refine .region ?_
  refine asd ?_
  refine rn ?_
  generalize hds : digs (val a) = ds at *
  have hok : Ok ds := by rw [← hds]; exact digs_ok _
  have hv : val ds = val a := by rw [← hds, val_digs]
  refine .mid (fun e H' => ∃ qs r, e = [(4, .own 49 (L qs)), (6, .d (.i .u32 ((r : Nat) : Int)))] ∧ H' = [] ∧ Ok qs ∧ qs.length = ds.length ∧ r < d ∧ val a = val qs * d + r) ?_ ?_
  · refine .seq ?_
    refine .region ?_
    refine mvo ?_
    refine lnr ?_ l32
    refine su ((ds.length : Int) - 1) ?_ ?_
    · simp [L_length]; omega
    refine asd ?_
    refine rn ?_
    refine .block ?_
    refine .loop (.gh (Gh.keep [1, 4, 6, 7] rfl) ?_)
    refine AL.cast (env' := [(1, .d (.i .u32 d)), (4, .own 49 (L (ds.take ds.length ++ []))), (6, .d (.i .u32 ((0 : Nat) : Int))), (7, .d (.i .i64 ((ds.length : Int) - 1)))]) (by simp [keepE, get, argEnv]) ?_
    refine AL.ind (σ := Nat × List Nat × Nat) (m := fun s => s.1) (e := fun s => [(1, .d (.i .u32 d)), (4, .own 49 (L (ds.take s.1 ++ s.2.1))), (6, .d (.i .u32 (s.2.2 : Int))), (7, .d (.i .i64 ((s.1 : Int) - 1)))]) (h := fun _ => [])
      (I := fun s => s.1 ≤ ds.length ∧ Ok s.2.1 ∧ s.2.1.length + s.1 = ds.length ∧ s.2.2 < d ∧ val (ds.drop s.1) = val s.2.1 * d + s.2.2) ?_ (ds.length, [], 0) ?_
    rotate_left
    · exact ⟨Nat.le_refl _, .nil, by simp, hd0, by simp [val]⟩
    rintro ⟨k, qs, r⟩ ⟨h1, h2, h3, h4, h5⟩ ih
    dsimp only at h1 h2 h3 h4 h5 ih ⊢
    refine .seq ?_
    refine .seq ?_
    refine .region ?_
    refine mvd ?_
    refine bi ?_
    refine rn ?_
    rcases Nat.eq_zero_or_pos k with rfl | hk
    · rw [decide_eq_false (show ¬ (0:Int) ≤ ((0 : Nat) : Int) - 1 by omega)]
      refine cndf ?_
      refine .gh (Gh.keep [4, 6] rfl) ?_
      refine .exit ?_
      refine ⟨qs, r, rfl, rfl, h2, by omega, h4, ?_⟩
      rw [← hv, ← h5, List.drop_zero]
    · obtain ⟨k, rfl⟩ : ∃ j, k = j + 1 := ⟨k - 1, by omega⟩
      have hx : ds[k]? = some ds[k] := List.getElem?_eq_getElem (by omega)
      generalize ds[k] = x at hx
      have hx' : (ds.take (k + 1) ++ qs)[k]? = some x := by
        rw [List.getElem?_append_left (by simp; omega), List.getElem?_take_of_lt (by omega)]; exact hx
      rw [decide_eq_true (show (0:Int) ≤ ((k + 1 : Nat) : Int) - 1 by omega)]
      refine cndt ?_
      refine .skip ?_
      show AW _ _ _ _ _ _
      refine .seq ?_
      refine .block ?_
      refine .region ?_
      refine mvo ?_
      refine mvd ?_
      refine mvd ?_
      refine mvo ?_
      refine mvd ?_
      refine ixr k ?_ ?_ ?_ s32 (by decide)
      · omega
      · simp [L_length]; omega
      refine lde (U x) ?_ ?_ a32
      · rw [Nat.zero_add]; exact L_at' hx'
      refine mvd ?_
      refine cl (xs := [.i .u32 r, .i .u32 x, .i .u32 d]) ?_ (Div32_fn h4 (hok.at hx) hd) Try.call66
      refine mvt ?_
      refine ex ?_
      refine ex ?_
      refine ixr k ?_ ?_ ?_ s32 (by decide)
      · omega
      · simp [L_length]; omega
      refine ste ?_ ?_ z32
      · rw [Nat.zero_add]; exact L_leaf hx'
      refine asd ?_
      refine .nil ?_
      show AW _ _ _ _ _ _
      refine .region ?_
      refine mvd ?_
      refine su ((k : Int) - 1) ?_ ?_
      · omega
      refine asd ?_
      refine .nil ?_
      have hq : (r * 4294967296 + x) / d < 4294967296 := by
        rw [Nat.div_lt_iff_lt_mul (by omega)]
        have : r * 4294967296 + 4294967296 ≤ d * 4294967296 := by rw [← Nat.succ_mul]; exact Nat.mul_le_mul_right _ h4
        have := hok.at hx
        omega
      have e1 : (L (ds.take (k + 1) ++ qs)).set (0 + k) (U ((r * 4294967296 + x) / d)) = L (ds.take k ++ ((r * 4294967296 + x) / d :: qs)) := by
        rw [L_set, Nat.zero_add, List.take_add_one, hx]
        congr 1
        rw [List.append_assoc, List.set_append_right _ _ (by simp; omega)]
        simp [Nat.min_eq_left (show k ≤ ds.length by omega)]
      refine AL.gh (Gh.keep [1, 4, 6, 7] rfl) ?_
      have := ih (k, (r * 4294967296 + x) / d :: qs, (r * 4294967296 + x) % d) ⟨by omega, .cons hq h2, by simp; omega, Nat.mod_lt _ hd0, small_round hx h5⟩ (by simp)
      dsimp only at this
      rw [← e1] at this
      exact this
  · rintro _ _ ⟨qs, r, rfl, rfl, h1, h2, h3, h4⟩
    obtain ⟨e1, e2⟩ := divmod_of h4 h3
    rw [e1, e2]
    refine .seq ?_
    refine .region ?_
    refine fz (p := .t 4) ?_
    refine mvd ?_
    refine cl (xs := [.sl (L qs)]) ?_ (cut_val h1 (by omega)) Try.call46
    refine mvd ?_
    refine cve (r : Int) (toU64 (by omega)) ?_ u32 u64
    refine cl ?_ (Of_fn (n := r) (by omega)) Try.call28
    refine asd ?_
    refine asd ?_
    refine rn ?_
    refine .ret ?_
    exact ⟨by decide, rfl, rfl, rfl⟩
end Go.FL
/-
  (*nat.limbs).add: a number is added at a place.
-/
namespace Go.FL
open Go Go.Proofs

/-- Limbs to which n is added at a place. -/
def padL (xs : List Nat) (at_ : Nat) : List Nat := xs ++ List.replicate (at_ + 1 - xs.length) 0
theorem padL_len (xs : List Nat) (at_ : Nat) : at_ < (padL xs at_).length ∧ (at_ < xs.length → padL xs at_ = xs) := by
  constructor
  · simp [padL]; omega
  · intro h; simp [padL, show at_ + 1 - xs.length = 0 by omega]
theorem padL_zero {xs : List Nat} {at_ : Nat} (h : ¬ at_ < xs.length) : (padL xs at_).getD at_ 0 = 0 := by
  simp only [padL, List.getD_eq_getElem?_getD]
  rw [List.getElem?_append_right (by omega)]
  simp only [List.getElem?_replicate]
  split <;> rfl
theorem padL_length (xs : List Nat) (at_ : Nat) : (padL xs at_).length = max xs.length (at_ + 1) := by simp [padL]; omega
def addL (xs : List Nat) (n at_ : Nat) : List Nat :=
  if h : n = 0 then xs
  else addL ((padL xs at_).set at_ ((n + (padL xs at_).getD at_ 0) % 4294967296)) ((n + (padL xs at_).getD at_ 0) / 4294967296) (at_ + 1)
termination_by (xs.length - at_, n)
decreasing_by
  by_cases hl : at_ < xs.length
  · apply Prod.Lex.left
    rw [List.length_set, (padL_len xs at_).2 hl]; omega
  · rw [padL_zero hl, Nat.add_zero, List.length_set, padL_length]
    rw [show max xs.length (at_ + 1) - (at_ + 1) = xs.length - at_ by omega]
    apply Prod.Lex.right
    exact Nat.div_lt_self (by omega) (by decide)
theorem addL_zero (xs : List Nat) (at_ : Nat) : addL xs 0 at_ = xs := by unfold addL; simp
theorem addL_pos {xs : List Nat} {n at_ : Nat} (h : n ≠ 0) : addL xs n at_ = addL ((padL xs at_).set at_ ((n + (padL xs at_).getD at_ 0) % 4294967296)) ((n + (padL xs at_).getD at_ 0) / 4294967296) (at_ + 1) := by
  conv => lhs; unfold addL
  simp [h]
theorem val_replicate (k : Nat) : val (List.replicate k 0) = 0 := by
  induction k with
  | zero => rfl
  | succ k ih => simp [List.replicate_succ, val, ih]
theorem padL_val (xs : List Nat) (at_ : Nat) : val (padL xs at_) = val xs := by simp [padL, val_append, val_replicate]
theorem padL_ok {xs : List Nat} (h : Ok xs) (at_ : Nat) : Ok (padL xs at_) := h.append fun x hx => by
  rw [List.eq_of_mem_replicate hx]; decide
theorem val_set : ∀ {xs : List Nat} {i x y : Nat}, xs[i]? = some x → val (xs.set i y) + x * 4294967296 ^ i = val xs + y * 4294967296 ^ i := by
  intro xs
  induction xs with
  | nil => intro i x y h; simp at h
  | cons z zs ih =>
    intro i x y h
    cases i with
    | zero => simp at h; subst h; simp only [List.set_cons_zero, val, Nat.pow_zero, Nat.mul_one]; omega
    | succ i =>
      have := ih (y := y) (by simpa using h)
      simp only [List.set_cons_succ, val, Nat.pow_succ]
      have e1 : x * (4294967296 ^ i * 4294967296) = 4294967296 * (x * 4294967296 ^ i) := by rw [← Nat.mul_assoc, Nat.mul_comm]
      have e2 : y * (4294967296 ^ i * 4294967296) = 4294967296 * (y * 4294967296 ^ i) := by rw [← Nat.mul_assoc, Nat.mul_comm]
      rw [e1, e2]; omega
theorem addL_val (xs : List Nat) (n at_ : Nat) (h : Ok xs) : val (addL xs n at_) = val xs + n * 4294967296 ^ at_ ∧ Ok (addL xs n at_) := by
  induction xs, n, at_ using addL.induct with
  | case1 xs at_ => rw [addL_zero]; exact ⟨by simp, h⟩
  | case2 xs n at_ hn ih =>
    rw [addL_pos hn]
    have hlt := (padL_len xs at_).1
    have hx : (padL xs at_)[at_]? = some ((padL xs at_).getD at_ 0) := by rw [List.getD_eq_getElem?_getD, List.getElem?_eq_getElem hlt]; rfl
    generalize (padL xs at_).getD at_ 0 = x at *
    have hp := padL_ok h at_
    obtain ⟨i1, i2⟩ := ih (hp.set _ (Nat.mod_lt _ (by decide)))
    refine ⟨?_, i2⟩
    rw [i1]
    have hs := val_set (y := (n + x) % 4294967296) hx
    rw [padL_val] at hs
    have e1 : (n + x) / 4294967296 * 4294967296 ^ (at_ + 1) = (n + x) / 4294967296 * 4294967296 * 4294967296 ^ at_ := by rw [Nat.pow_succ, Nat.mul_comm (4294967296 ^ at_), Nat.mul_assoc]
    have e2 : (n + x) % 4294967296 * 4294967296 ^ at_ + (n + x) / 4294967296 * 4294967296 * 4294967296 ^ at_ = (n + x) * 4294967296 ^ at_ := by
      rw [← Nat.add_mul]; congr 1; omega
    have e3 : (n + x) * 4294967296 ^ at_ = n * 4294967296 ^ at_ + x * 4294967296 ^ at_ := Nat.add_mul _ _ _
    omega
theorem addL_len (xs : List Nat) (n at_ : Nat) (h : Ok xs) : ∀ j, n ≤ 4294967296 ^ j → (addL xs n at_).length ≤ max xs.length (at_ + j) + 1 := by
  induction xs, n, at_ using addL.induct with
  | case1 xs at_ => intro j _; rw [addL_zero]; omega
  | case2 xs n at_ hn0 ih =>
    intro j hj
    rw [addL_pos hn0]
    have hlt := (padL_len xs at_).1
    have hx : (padL xs at_)[at_]? = some ((padL xs at_).getD at_ 0) := by rw [List.getD_eq_getElem?_getD, List.getElem?_eq_getElem hlt]; rfl
    have hp := padL_ok h at_
    have hxl := hp.at hx
    have ih := ih (hp.set _ (Nat.mod_lt _ (by decide)))
    rw [List.length_set, padL_length] at ih
    by_cases hl : at_ < xs.length
    · cases j with
      | zero =>
        have := ih 0 (by rw [Nat.pow_zero] at hj ⊢; omega)
        omega
      | succ j =>
        have := ih j (by
          rw [Nat.pow_succ] at hj
          have : (n + (padL xs at_).getD at_ 0) / 4294967296 < 4294967296 ^ j + 1 := by
            rw [Nat.div_lt_iff_lt_mul (by decide), Nat.add_mul]; omega
          omega)
        omega
    · have h0 := padL_zero hl
      rw [h0] at ih ⊢
      cases j with
      | zero =>
        simp at hj
        have e : (n + 0) / 4294967296 = 0 := by omega
        rw [e, addL_zero, List.length_set, padL_length]; omega
      | succ j =>
        have := ih j (by
          rw [Nat.pow_succ] at hj
          rw [Nat.add_zero]
          exact (Nat.div_le_iff_le_mul_add_pred (by decide)).2 (by omega))
        omega

theorem addL_ge (xs : List Nat) (n at_ : Nat) : xs.length ≤ (addL xs n at_).length ∧ (n ≠ 0 → at_ < (addL xs n at_).length) := by
  induction xs, n, at_ using addL.induct with
  | case1 xs at_ => rw [addL_zero]; exact ⟨Nat.le_refl _, fun h => absurd rfl h⟩
  | case2 xs n at_ hn0 ih =>
    rw [addL_pos hn0]
    have h1 := ih.1
    rw [List.length_set, padL_length] at h1
    exact ⟨by omega, fun _ => by omega⟩
/-- A box whose cell holds limbs. -/
abbrev hb (H : Heap) (id off : Nat) (cs : List AV) (xs : List Nat) : Heap := H.set id (.box (cs.set off (.own 49 (L xs))))
theorem hb_get {H : Heap} {id off : Nat} {cs : List AV} {xs : List Nat} (h : id < H.length) : (hb H id off cs xs)[id]? = some (.box (cs.set off (.own 49 (L xs)))) := by simp [hb, h]
theorem hb_cell {off : Nat} {cs : List AV} {v : AV} (h : off < cs.length) : (cs.set off v)[off]? = some v := by simp [h]
theorem hb_set (H : Heap) (id off : Nat) (cs : List AV) (xs ys : List Nat) : (hb H id off cs xs).set id (.box ((cs.set off (.own 49 (L xs))).set off (.own 49 (L ys)))) = hb H id off cs ys := by simp [hb]
theorem hb_plAV (H : Heap) {id off : Nat} {cs : List AV} {xs : List Nat} (env : Env) (h : id < H.length) (ho : off < cs.length) : plAV env (hb H id off cs xs) (.c id off) = .own 49 (L xs) := by
  simp [plAV, hb, h, List.getD_eq_getElem?_getD, ho]
theorem hb_setP (H : Heap) {id off : Nat} {cs : List AV} {xs ys : List Nat} (h : id < H.length) : setP (.c id off) (.own 49 (L ys)) (hb H id off cs xs) = hb H id off cs ys := by
  simp [setP, setC, hb, h]
end Go.FL
/-
  (*nat.limbs).add: the walk.
-/
namespace Go.FL
open Go Go.Proofs

theorem add_fn {H : Heap} {id off : Nat} {cs : List AV} {xs0 : List Nat} (hH : H[id]? = some (.box cs)) (hc : cs[off]? = some (.own 49 (L xs0))) (hx0 : Ok xs0) (hl0 : xs0.length ≤ 1048576) {n0 at0 : Nat} (hn0 : n0 < 18446744069414584320) (hat0 : at0 ≤ 1048576) :
    FnG Try.prog 70 [.bp id off, .d (.i .u64 n0), .d (.i .i64 at0)] H (.tup []) [] (hb H id off cs (addL xs0 n0 at0)) := by
  have hid : id < H.length := (List.getElem?_eq_some_iff.1 hH).1
  have hoff : off < cs.length := (List.getElem?_eq_some_iff.1 hc).1
  have hHe : H = hb H id off cs xs0 := by
    unfold hb
    rw [List.set_same _ _ hc, List.set_same _ _ hH]
  have hlen : (addL xs0 n0 at0).length ≤ 1048580 := by
    have := addL_len xs0 n0 at0 hx0 2 (by simp; omega); omega
  refine FnG.of (rs := []) 0 41 Try.func70 rfl rfl rfl (by simp) (by simp) (by simp) ?_
  refine .block ?_
  refine .loop (.gh (Gh.keep [0, 1, 2] rfl) ?_)
  refine AL.castH hHe ?_
  refine AL.ind (σ := List Nat × Nat × Nat) (m := fun s => (s.1.length - s.2.2) * 36893488147419103232 + s.2.1) (e := fun s => [(0, .bp id off), (1, .d (.i .u64 (s.2.1 : Int))), (2, .d (.i .i64 (s.2.2 : Int)))]) (h := fun s => hb H id off cs s.1)
    (I := fun s => addL s.1 s.2.1 s.2.2 = addL xs0 n0 at0 ∧ Ok s.1 ∧ s.2.1 < 18446744069414584320) ?_ (xs0, n0, at0) ⟨rfl, hx0, hn0⟩
  rintro ⟨xs, n, at_⟩ ⟨h1, h2, h3⟩ ih
  dsimp only at h1 h2 h3 ih ⊢
  have hge := addL_ge xs n at_
  rw [h1] at hge
  refine .seq ?_
  refine .seq ?_
  refine .region ?_
  refine mvd ?_
  refine bi ?_
  refine rn ?_
  by_cases hn : n = 0
  · subst hn
    refine cndf ?_
    refine .exit ?_
    rw [addL_zero] at h1
    subst h1
    exact ⟨⟨[], by simp⟩, rfl, by simp⟩
  · rw [decide_eq_true (show (0:Int) < (n:Int) by omega)]
    have hat := hge.2 hn
    refine cndt ?_
    refine .skip ?_
    show AW _ _ _ _ _ _
    refine .seq ?_
    refine .block ?_
    refine .mid (fun e H' => e = [(0, .bp id off), (1, .d (.i .u64 (n : Int))), (2, .d (.i .i64 (at_ : Int)))] ∧ H' = hb H id off cs (padL xs at_)) ?_ ?_
    · refine .block ?_
      refine .loop (.gh (Gh.keep [0, 1, 2] rfl) ?_)
      refine AL.ind (σ := List Nat) (m := fun ys => at_ + 1 - ys.length) (e := fun _ => [(0, .bp id off), (1, .d (.i .u64 (n : Int))), (2, .d (.i .i64 (at_ : Int)))]) (h := fun ys => hb H id off cs ys)
        (I := fun ys => padL ys at_ = padL xs at_ ∧ ys.length ≤ 1048580) ?_ xs ⟨rfl, by omega⟩
      rintro ys ⟨g1, g2⟩ ih2
      refine .seq ?_
      refine .seq ?_
      refine .region ?_
      refine mvd ?_
      refine mvb ?_
      refine ncb ?_
      refine ldbo (hb_get hid) (hb_cell hoff) ?_ alm
      refine lnr ?_ llm
      refine bi ?_
      refine rn ?_
      by_cases hl : at_ < ys.length
      · rw [decide_eq_false (show ¬ (((L ys).length : Nat) : Int) ≤ (at_:Int) by rw [L_length]; omega)]
        refine cndf ?_
        refine .gh (Gh.keep [0, 1, 2] rfl) ?_
        refine .exit ?_
        refine ⟨rfl, ?_⟩
        rw [← g1, (padL_len ys at_).2 hl]
      · rw [decide_eq_true (show (((L ys).length : Nat) : Int) ≤ (at_:Int) by rw [L_length]; omega)]
        refine cndt ?_
        refine .skip ?_
        show AW _ _ _ _ _ _
        refine .gh (Gh.keep [0, 1, 2] rfl) ?_
        refine .block ?_
        refine .region ?_
        refine mvb ?_
        refine mvb ?_
        refine ncb ?_
        refine ldbo (hb_get hid) (hb_cell hoff) ?_ alm
        refine bsl ?_ ?_ elm
        · simp [DV.flat, DV.cells, DV.leaf]
        refine apc (ys := [.i .u32 0]) (hb_get hid) (hb_cell hoff) ?_ ?_ (by simp [DV.cells]) elm
        · simp [L_length]; omega
        refine ncb ?_
        refine RL.gh (Gh.keep [0, 1, 2, 21, 22] rfl) ?_
        refine stbo (id := id) (off := off) (cs := (cs.set off (.own 49 (L ys))).set off .un) (c := .un) ?_ ?_ ?_ zlm
        · simp [hb, hid]
        · simp [hoff]
        refine .nil ?_
        refine AL.gh (Gh.keep [0, 1, 2] rfl) ?_
        have e1 : padL (ys ++ [0]) at_ = padL xs at_ := by
          rw [← g1]
          simp only [padL, List.length_append, List.length_singleton, List.append_assoc]
          rw [show at_ + 1 - ys.length = (at_ + 1 - (ys.length + 1)) + 1 by omega, List.replicate_succ]; rfl
        have := ih2 (ys ++ [0]) ⟨e1, by simp; omega⟩ (by simp; omega)
        have e2 : (L ys).take (L ys).length ++ [DV.i .u32 0] = L (ys ++ [0]) := by rw [List.take_length]; simp [L, U]
        refine AL.castH ?_ this
        rw [e2]
        simp [hb]
    · rintro _ _ ⟨rfl, rfl⟩
      have hpl := padL_len xs at_
      have hx : (padL xs at_)[at_]? = some ((padL xs at_).getD at_ 0) := by rw [List.getD_eq_getElem?_getD, List.getElem?_eq_getElem hpl.1]; rfl
      have hpo := padL_ok h2 at_
      have hstep := addL_pos (xs := xs) (at_ := at_) hn
      rw [h1] at hstep
      have hxb := hpo.at hx
      have hm1 : ¬ at_ < xs.length → (padL xs at_).getD at_ 0 = 0 := fun h => padL_zero h
      have hpll := padL_length xs at_
      generalize (padL xs at_).getD at_ 0 = x at hx hstep hxb hm1
      generalize padL xs at_ = ys at hx hstep hpo hpl hpll
      have hylen : ys.length ≤ 1048580 := by omega
      refine .seq ?_
      refine .region ?_
      refine mvd ?_
      refine mvb ?_
      refine ncb ?_
      refine ldbo (hb_get hid) (hb_cell hoff) ?_ alm
      refine mvd ?_
      refine ixr (p := .c id off) (xs := L ys) at_ rfl ?_ ?_ slm (by decide) (hp := hb_plAV H _ hid hoff)
      · rw [L_length]; exact hpl.1
      refine lde (p := .c id off) (xs := L ys) (U x) ?_ ?_ a32 (hp := hb_plAV H _ hid hoff)
      · rw [Nat.zero_add]; exact L_at' hx
      refine cve (x : Int) (toU64 (by omega)) ?_ u32 u64
      refine bie (.i .u64 ((n + x : Nat) : Int)) ?_ ?_
      · exact ⟨trivial, by rw [← Int.natCast_add, toU64 (by omega)]⟩
      refine asd ?_
      refine rn ?_
      refine .seq ?_
      refine .region ?_
      refine mvb ?_
      refine ncb ?_
      refine ldbo (hb_get hid) (hb_cell hoff) ?_ alm
      refine mvd ?_
      refine mvd ?_
      refine cve (((n + x) % 4294967296 : Nat) : Int) (wrapU32 _) ?_ u64 u32
      refine ixr (p := .c id off) (xs := L ys) at_ rfl ?_ ?_ slm (by decide) (hp := hb_plAV H _ hid hoff)
      · rw [L_length]; exact hpl.1
      refine ste (p := .c id off) (xs := L ys) ?_ ?_ z32 (hp := hb_plAV H _ hid hoff) (hn := fun _ _ _ => Nat.zero_le _)
      · rw [Nat.zero_add]; exact L_leaf hx
      rw [show 0 + at_ = at_ from Nat.zero_add _, show DV.i .u32 (((n + x) % 4294967296 : Nat) : Int) = U ((n + x) % 4294967296) from rfl, L_set, hb_setP H hid]
      refine rn ?_
      refine .region ?_
      refine mvd ?_
      refine bie (.i .u64 (((n + x) / 4294967296 : Nat) : Int)) ?_ ?_
      · simp [IntKind.bits]
      refine asd ?_
      refine .nil ?_
      show AW _ _ _ _ _ _
      refine .region ?_
      refine mvd ?_
      refine ad ((at_ + 1 : Nat) : Int) ?_ ?_
      · omega
      refine asd ?_
      refine .nil ?_
      refine AL.gh (Gh.keep [0, 1, 2] rfl) ?_
      refine AL.cast (env' := [(0, .bp id off), (1, .d (.i .u64 (((n + x) / 4294967296 : Nat) : Int))), (2, .d (.i .i64 ((at_ + 1 : Nat) : Int)))]) ?_ ?_
      · rfl
      refine (ih (ys.set at_ ((n + x) % 4294967296), (n + x) / 4294967296, at_ + 1) ⟨hstep.symm, hpo.set _ (Nat.mod_lt _ (by decide)), by show (n + x) / 4294967296 < 18446744069414584320; omega⟩ ?_)
      simp only [List.length_set]
      by_cases hl : at_ < xs.length
      · have : ys.length = xs.length := by omega
        rw [this]
        have e : xs.length - at_ = (xs.length - (at_ + 1)) + 1 := by omega
        rw [e, Nat.add_mul]; omega
      · have := hm1 hl
        subst this
        have e1 : ys.length - (at_ + 1) = 0 := by omega
        have e2 : xs.length - at_ = 0 := by omega
        rw [e1, e2]; omega
end Go.FL
/-
  (*nat.adder).number.
-/
namespace Go.FL
open Go Go.Proofs

theorem fad : fieldT Try.prog 69 0 = some (0, 1) := by kernel_rfl
/-- Limbs to which others are added, from a place on. -/
def addAll : List Nat → List Nat → Nat → List Nat
  | xs, [], _ => xs
  | xs, y :: ys, i => addAll (addL xs y i) ys (i + 1)
theorem addAll_val : ∀ (ys xs : List Nat) (i : Nat), Ok xs → val (addAll xs ys i) = val xs + val ys * 4294967296 ^ i ∧ Ok (addAll xs ys i)
  | [], xs, i, h => ⟨by simp [addAll, val], h⟩
  | y :: ys, xs, i, h => by
    obtain ⟨a1, a2⟩ := addL_val xs y i h
    obtain ⟨b1, b2⟩ := addAll_val ys (addL xs y i) (i + 1) a2
    refine ⟨?_, b2⟩
    show val (addAll (addL xs y i) ys (i + 1)) = _
    rw [b1, a1, val, Nat.add_mul, Nat.pow_succ, Nat.add_assoc]
    congr 2
    rw [← Nat.mul_assoc, Nat.mul_comm (val ys * _), ← Nat.mul_assoc]
theorem addAll_ge : ∀ (ys xs : List Nat) (i : Nat), xs.length ≤ (addAll xs ys i).length
  | [], xs, i => Nat.le_refl _
  | y :: ys, xs, i => Nat.le_trans (addL_ge xs y i).1 (addAll_ge ys (addL xs y i) (i + 1))
theorem hb_app {H G : Heap} {id off : Nat} {cs : List AV} {xs ys : List Nat} (h : id < H.length) : hb (hb H id off cs xs ++ G) id off (cs.set off (.own 49 (L xs))) ys = hb H id off cs ys ++ G := by
  simp [hb, h]
theorem hb_getG {H G : Heap} {id off : Nat} {cs : List AV} {xs : List Nat} (h : id < H.length) : (hb H id off cs xs ++ G)[id]? = some (.box (cs.set off (.own 49 (L xs)))) := by
  rw [List.getElem?_append_left (by simpa using h)]; exact hb_get h
theorem number_fn {H : Heap} {id off : Nat} {cs : List AV} {xs0 b : List Nat} (hH : H[id]? = some (.box cs)) (hc : cs[off]? = some (.own 49 (L xs0))) (hx0 : Ok xs0) (hb0 : Ok b) (hl : b.length ≤ 1048576) (hl0 : (addAll xs0 b 0).length ≤ 1048576) :
    FnG Try.prog 63 [.bp id off, .d (.sl (L b))] H (.tup []) [] (hb H id off cs (addAll xs0 b 0)) := by
  have hid : id < H.length := (List.getElem?_eq_some_iff.1 hH).1
  have hoff : off < cs.length := (List.getElem?_eq_some_iff.1 hc).1
  have hHe : H = hb H id off cs xs0 ++ [] := by
    unfold hb
    rw [List.set_same _ _ hc, List.set_same _ _ hH, List.append_nil]
  refine FnG.of (rs := []) 0 21 Try.func63 rfl rfl rfl (by simp) (by simp) (by simp) ?_
  refine .seq ?_
  refine .region ?_
  refine mvd ?_
  refine ln ?_ (L_sz _) l32
  refine mvd ?_
  refine rn ?_
  refine .block ?_
  refine .loop (.gh (Gh.keep [0, 6, 7, 8] rfl) ?_)
  refine AL.castH hHe ?_
  refine AL.ind (σ := List Nat × Nat × Heap) (m := fun s => b.length - s.2.1) (e := fun s => [(0, .bp id off), (6, .d (.sl (L b))), (7, .d (.i .i64 ((L b).length : Nat))), (8, .d (.i .i64 (s.2.1 : Int)))]) (h := fun s => hb H id off cs s.1 ++ s.2.2)
    (I := fun s => s.2.1 ≤ b.length ∧ Ok s.1 ∧ addAll s.1 (b.drop s.2.1) s.2.1 = addAll xs0 b 0) ?_ (xs0, 0, []) ⟨by simp, hx0, rfl⟩
  rintro ⟨xs, i, G⟩ ⟨h1, h2, h3⟩ ih
  dsimp only at h1 h2 h3 ih ⊢
  refine .seq ?_
  refine .region ?_
  refine bi ?_
  refine rn ?_
  refine .seq ?_
  by_cases hi : i < b.length
  · rw [decide_eq_true (show (i:Int) < ((L b).length : Nat) by rw [L_length]; omega)]
    have hy : b[i]? = some b[i] := List.getElem?_eq_getElem hi
    have hdr : b.drop i = b[i] :: b.drop (i + 1) := List.drop_eq_getElem_cons hi
    generalize b[i] = y at hy hdr
    have hyl := hb0.at hy
    rw [hdr] at h3
    have hge := addAll_ge (b.drop (i + 1)) (addL xs y i) (i + 1)
    replace h3 : addAll (addL xs y i) (b.drop (i + 1)) (i + 1) = addAll xs0 b 0 := h3
    rw [h3] at hge
    have hge2 := (addL_ge xs y i).1
    refine cndt ?_
    refine .skip ?_
    show AW _ _ _ _ _ _
    refine .seq ?_
    refine .block ?_
    refine .seq ?_
    refine .region ?_
    refine mvd ?_
    refine ix i ?_ rfl (L_at hy) rfl s32
    refine ldp ?_ a32
    refine asd ?_
    refine asd ?_
    refine rn ?_
    refine .region ?_
    refine mvb ?_
    refine ncb ?_
    refine fab ?_ fad (by decide)
    refine mvd ?_
    refine cve (y : Int) (toU64 (by omega)) ?_ u32 u64
    refine mvd ?_
    refine clg (fun G2 => ?_) (add_fn (n0 := y) (at0 := i) (hb_getG hid) (hb_cell hoff) h2 (by omega) (by omega) (by omega)) Try.call70
    refine .nil ?_
    show AW _ _ _ _ _ _
    refine .region ?_
    refine ad ((i + 1 : Nat) : Int) ?_ ?_
    · omega
    refine mvd ?_
    refine .nil ?_
    refine AL.gh (Gh.keep [0, 6, 7, 8] rfl) ?_
    refine AL.castH (H' := hb H id off cs (addL xs y i) ++ (G ++ G2)) (by rw [hb_app hid, List.append_assoc]) ?_
    exact ih (addL xs y i, i + 1, G ++ G2) ⟨by show i + 1 ≤ b.length; omega, (addL_val xs y i h2).2, h3⟩ (by show b.length - (i + 1) < b.length - i; omega)
  · rw [decide_eq_false (show ¬ (i:Int) < ((L b).length : Nat) by rw [L_length]; omega)]
    have : b.drop i = [] := List.drop_eq_nil_of_le (by omega)
    rw [this] at h3
    replace h3 : xs = addAll xs0 b 0 := h3
    refine cndf ?_
    refine .exit ?_
    rw [h3]
    exact ⟨⟨G, rfl⟩, rfl, by simp⟩
end Go.FL
/-
  nat.Sum.
-/
namespace Go.FL
open Go Go.Proofs

theorem s2 : sliceT Try.prog 30 = some (22, 1, 24) := by kernel_rfl
theorem l2 : Try.prog.underlying 30 = some (.slice (Try.prog.elem 30)) := by kernel_rfl
theorem a2 : aggT Try.prog 22 = some false := by kernel_rfl
def LL (ls : List (List Nat)) : List DV := ls.map fun a => .sl (L a)
theorem LL_length (ls : List (List Nat)) : (LL ls).length = ls.length := by simp [LL]
theorem LL_sz (ls : List (List Nat)) : ∃ sz, ∀ x ∈ LL ls, x.cells.length = sz := ⟨1, fun x hx => by
  simp only [LL, List.mem_map] at hx
  obtain ⟨n, _, rfl⟩ := hx; rfl⟩
theorem LL_at {ls : List (List Nat)} {i : Nat} {a : List Nat} (h : ls[i]? = some a) : (LL ls)[i]? = some (.sl (L a)) := by simp [LL, h]
def sumAll : List (List Nat) → List Nat → List Nat
  | [], xs => xs
  | a :: r, xs => sumAll r (addAll xs a 0)
theorem sumAll_val : ∀ (ls : List (List Nat)) (xs : List Nat), Ok xs → val (sumAll ls xs) = val xs + (ls.map val).sum ∧ Ok (sumAll ls xs)
  | [], xs, h => ⟨by simp [sumAll], h⟩
  | a :: r, xs, h => by
    obtain ⟨a1, a2⟩ := addAll_val a xs 0 h
    obtain ⟨b1, b2⟩ := sumAll_val r _ a2
    refine ⟨?_, b2⟩
    show val (sumAll r (addAll xs a 0)) = _
    rw [b1, a1]; simp; omega
theorem sumAll_ge : ∀ (ls : List (List Nat)) (xs : List Nat), xs.length ≤ (sumAll ls xs).length
  | [], xs => Nat.le_refl _
  | a :: r, xs => Nat.le_trans (addAll_ge a xs 0) (sumAll_ge r _)
theorem zadder (w : World) : (zeroValue 69).run Try.prog w = .ok (.agg #[.slice none 0 0]) w := by simp
theorem adder_cells (w : World) (I : Nat → Prop) (μ : List Nat) : ARepAll Try.prog w I μ [.own 49 (L [])] (Value.agg #[.slice none 0 0]).cells.toList [] := by
  have := ARepAll.cons (ARep.own (P := Try.prog) (w := w) (I := I) (μ := μ) 49 [] (.slice none 0 0) [] z32p (.inl ⟨none, rfl, rfl, rfl⟩) (.nil _)) .nil
  exact this
theorem Sum_fn {ls : List (List Nat)} (h : ∀ a ∈ ls, Ok a) (hl : ls.length ≤ 1048576) (hla : ∀ a ∈ ls, a.length ≤ 1048576) (hs : (sumAll ls []).length ≤ 1048576) : Fn Try.prog 41 [.sl (LL ls)] (.d (.sl (L (digs (ls.map val).sum)))) := by
  have hv := sumAll_val ls [] .nil
  refine Fn.of (rs := [.tmp 2]) (nt := 18) Try.func41 rfl rfl rfl (by simp) rfl ?_
  refine .seq ?_
  refine .region ?_
  refine asn ?_
  refine rn ?_
  refine .seq ?_
  refine .region ?_
  refine al ?_ zadder adder_cells
  refine rn ?_
  refine .mid (fun e H' => ∃ G, e = [(3, .bp 0 0)] ∧ H' = [.box [.own 49 (L (sumAll ls []))]] ++ G) ?_ ?_
  · refine .seq ?_
    refine .region ?_
    refine mvd ?_
    refine ln ?_ (LL_sz _) l2
    refine mvd ?_
    refine rn ?_
    refine .block ?_
    refine .loop (.gh (Gh.keep [3, 6, 7, 8] rfl) ?_)
    refine AL.ind (σ := List Nat × Nat × Heap) (m := fun s => ls.length - s.2.1) (e := fun s => [(3, .bp 0 0), (6, .d (.sl (LL ls))), (7, .d (.i .i64 ((LL ls).length : Nat))), (8, .d (.i .i64 (s.2.1 : Int)))]) (h := fun s => [.box [.own 49 (L s.1)]] ++ s.2.2)
      (I := fun s => s.2.1 ≤ ls.length ∧ Ok s.1 ∧ sumAll (ls.drop s.2.1) s.1 = sumAll ls []) ?_ ([], 0, []) ⟨by simp, .nil, rfl⟩
    rintro ⟨xs, i, G⟩ ⟨h1, h2, h3⟩ ih
    dsimp only at h1 h2 h3 ih ⊢
    refine .seq ?_
    refine .region ?_
    refine bi ?_
    refine rn ?_
    refine .seq ?_
    by_cases hi : i < ls.length
    · rw [decide_eq_true (show (i:Int) < ((LL ls).length : Nat) by rw [LL_length]; omega)]
      have hy : ls[i]? = some ls[i] := List.getElem?_eq_getElem hi
      have hdr : ls.drop i = ls[i] :: ls.drop (i + 1) := List.drop_eq_getElem_cons hi
      generalize ls[i] = y at hy hdr
      have hyo := h y (List.mem_of_getElem? hy)
      have hyl := hla y (List.mem_of_getElem? hy)
      rw [hdr] at h3
      replace h3 : sumAll (ls.drop (i + 1)) (addAll xs y 0) = sumAll ls [] := h3
      have hge := sumAll_ge (ls.drop (i + 1)) (addAll xs y 0)
      rw [h3] at hge
      refine cndt ?_
      refine .skip ?_
      show AW _ _ _ _ _ _
      refine .seq ?_
      refine .block ?_
      refine .seq ?_
      refine .region ?_
      refine ix i ?_ rfl (LL_at hy) rfl s2
      refine ldp ?_ a2
      refine asd ?_
      refine rn ?_
      refine .region ?_
      refine mvd ?_
      refine clg (fun G2 => ?_) (number_fn (cs := [.own 49 (L xs)]) (b := y) rfl rfl h2 hyo hyl (by omega)) Try.call63
      refine .nil ?_
      show AW _ _ _ _ _ _
      refine .region ?_
      refine ad ((i + 1 : Nat) : Int) ?_ ?_
      · omega
      refine mvd ?_
      refine .nil ?_
      refine AL.gh (Gh.keep [3, 6, 7, 8] rfl) ?_
      refine AL.castH (H' := [.box [.own 49 (L (addAll xs y 0))]] ++ (G ++ G2)) (by rw [← List.append_assoc]; rfl) ?_
      exact ih (addAll xs y 0, i + 1, G ++ G2) ⟨by show i + 1 ≤ ls.length; omega, (addAll_val y xs 0 h2).2, h3⟩ (by show ls.length - (i + 1) < ls.length - i; omega)
    · rw [decide_eq_false (show ¬ (i:Int) < ((LL ls).length : Nat) by rw [LL_length]; omega)]
      have : ls.drop i = [] := List.drop_eq_nil_of_le (by omega)
      rw [this] at h3
      replace h3 : xs = sumAll ls [] := h3
      refine cndf ?_
      refine .gh (Gh.keep [3] rfl) ?_
      refine .exit ?_
      rw [h3]
      exact ⟨G, rfl, rfl⟩
  · rintro _ _ ⟨G, rfl, rfl⟩
    refine .seq ?_
    refine .region ?_
    refine fz (p := .c 0 0) ?_
    refine fab ?_ fad (by decide)
    refine ldb (cs := [.d (.sl (L (sumAll ls [])))]) (c := .d (.sl (L (sumAll ls [])))) rfl rfl ?_ alm
    refine cl (xs := [.sl (L (sumAll ls []))]) ?_ (cut_val hv.2 (by omega)) Try.call46
    refine asd ?_
    refine rn ?_
    refine .ret ?_
    exact ⟨by rw [hv.1]; simp [val]; rfl, rfl⟩
end Go.FL
