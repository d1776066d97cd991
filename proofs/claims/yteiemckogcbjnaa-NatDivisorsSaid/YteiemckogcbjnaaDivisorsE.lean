/-
  Part 5 of 5 of the proof: the contracts of the functions, the law
-/
import Derived.Test.YteiemckogcbjnaaDivisorsD
import Derived.Test.YteiemckogcbjnaaRows
set_option linter.unusedVariables false
/-
  The statement NatDivisorsSaid: for every input the law gives true, and each argument reads as it read before.
-/
namespace Go.Proofs.Yteiemckogcbjnaa.natDivisors
open Go.ChangeShapes Go.WideShapes Go.ChangeAt Go.RowKit Go.FL

theorem own : ownKnob Try.prog.godebug = none := by kernel_rfl
theorem laid : laidOutB Try.prog = true := by kernel_rfl
theorem params : ∀ t ∈ Try.f6.params.toList, Try.prog.readableRec t = true ∧ t < Try.prog.types.size := by
  intro t ht
  simp only [Try.params6, List.mem_cons, List.not_mem_nil, or_false] at ht
  rcases ht with rfl | rfl | rfl <;> exact ⟨by kernel_rfl, of_decide_eq_true (by kernel_rfl)⟩
set_option maxRecDepth 100000 in
theorem lifted (os : Os) (started : os.Started) (H : Type) (enc : TypeId × Value → H) :
    ReturnsInHanded {} Try.checked os 6 .any (Rows.natDivisorsSpec.pre6 enc Try.prog Try.f6 Rows.natDivisorsRow.domain false) (Rows.natDivisorsSpec.post enc Try.prog Try.f6 false true false false) := by
  refine returnsInHanded_of_change (C := Try.checked) own started (by kernel_rfl) Try.func6
    (ChangeSpec.witness6 (enc := enc) (C := Try.checked) false ⟨#[], #[.slice none 0 0, .slice none 0 0, .slice none 0 0], []⟩ 8 (by kernel_rfl) (by kernel_rfl) (by kernel_rfl) (by kernel_rfl)) ?_
  intro W base args ds gs before hval0 hW hcnd _
  have hval : ∀ (j : Nat) t v, Try.f6.params[j]? = some t → args[j]? = some v → Value.okWide Try.prog W .any base t v := hval0
  have hW' := hW
  obtain ⟨p, q, hA0, hV, rfl, hfz, hnd⟩ := hW
  have hA : DataW.TrodAll enc Try.prog W 0 (fun _ => true) true Try.f6.params.toList args.toList ds p := hA0
  rw [Try.params6] at hA hval
  obtain ⟨v0, vs0, d0, ds0, p0, q0, hargs, rfl, rfl, h0, r0⟩ := trodAll_cons hA
  obtain ⟨v1, vs1, d1, ds1, p1, q1, rfl, rfl, rfl, h1, r1⟩ := trodAll_cons r0
  obtain ⟨v2, vs2, d2, ds2, p2, q2, rfl, rfl, rfl, h2, r2⟩ := trodAll_cons r1
  obtain ⟨rfl, rfl, rfl⟩ := trodAll_nil r2
  obtain rfl : args = #[v0, v1, v2] := by cases args; simp_all
  obtain ⟨zs0, w0, l0, hr0⟩ := arg_ints Try.underlying22 Try.underlying49 (by kernel_rfl) (hval 0 22 v0 rfl rfl) h0
  obtain ⟨a0, ok0, e0⟩ := as_limbs zs0 w0
  rw [e0] at hr0
  obtain ⟨zs1, w1, l1, hr1⟩ := arg_ints Try.underlying22 Try.underlying49 (by kernel_rfl) (hval 1 22 v1 rfl rfl) h1
  obtain ⟨a1, ok1, e1⟩ := as_limbs zs1 w1
  rw [e1] at hr1
  obtain ⟨zs2, w2, l2, hr2⟩ := arg_ints Try.underlying22 Try.underlying49 (by kernel_rfl) (hval 2 22 v2 rfl rfl) h2
  obtain ⟨a2, ok2, e2⟩ := as_limbs zs2 w2
  rw [e2] at hr2
  refine (law_calls (NatDivisors_fn ok0 ok1 ok2) (.cons hr0 (.cons hr1 (.cons hr2 .nil)))).mono fun e W' ⟨he, hb⟩ => ?_
  subst he
  exact ⟨_, rfl, post_law hW' rfl (fun hg => by subst hg; rfl) rfl Try.underlying4 laid params hb⟩

theorem over : Rows.natDivisorsRow.holds Try.pinned (OpenSpec.ofChange Rows.natDivisorsSpec) :=
  OpenClaim.holds_of_wide 6 Try.f6 rfl rfl rfl rfl rfl rfl rfl ⟨rfl, rfl, rfl, rfl, rfl⟩ rfl rfl rfl rfl rfl (by kernel_rfl) Try.func6 (by kernel_rfl)
    (of_decide_eq_true (by kernel_rfl)) (by unfold Func.isWrapper; first | (rw [if_pos (by decide +kernel)]; kernel_rfl) | (rw [if_neg (by decide +kernel)]; exact ⟨rfl, rfl⟩))
    (fun os started H enc _ => lifted os started H enc)

theorem proved : Rows.NatDivisorsSaid :=
  over
end Go.Proofs.Yteiemckogcbjnaa.natDivisors
