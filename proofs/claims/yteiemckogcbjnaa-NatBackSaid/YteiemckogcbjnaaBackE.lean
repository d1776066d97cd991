/-
  Part 5 of 5 of the proof: the contracts of the functions, the law
-/
import Derived.Test.YteiemckogcbjnaaBackD
import Derived.Test.YteiemckogcbjnaaRows
set_option linter.unusedVariables false
/-
  The statement NatBackSaid: for every input the law gives true, and each argument reads as it read before.
-/
namespace Go.Proofs.Yteiemckogcbjnaa.natBack
open Go.ChangeShapes Go.WideShapes Go.ChangeAt Go.RowKit Go.FL

theorem own : ownKnob Try.prog.godebug = none := by kernel_rfl
theorem laid : laidOutB Try.prog = true := by kernel_rfl
theorem params : ∀ t ∈ Try.f10.params.toList, Try.prog.readableRec t = true ∧ t < Try.prog.types.size := by
  intro t ht
  simp only [Try.params10, List.mem_cons, List.not_mem_nil, or_false] at ht
  rcases ht with rfl | rfl <;> exact ⟨by kernel_rfl, of_decide_eq_true (by kernel_rfl)⟩
set_option maxRecDepth 100000 in
theorem lifted (os : Os) (started : os.Started) (H : Type) (enc : TypeId × Value → H) :
    ReturnsInHanded {} Try.checked os 10 .any (Rows.natBackSpec.pre6 enc Try.prog Try.f10 Rows.natBackRow.domain false) (Rows.natBackSpec.post enc Try.prog Try.f10 false true false false) := by
  refine returnsInHanded_of_change (C := Try.checked) own started (by kernel_rfl) Try.func10
    (ChangeSpec.witness6 (enc := enc) (C := Try.checked) false ⟨#[], #[.slice none 0 0, .slice none 0 0], []⟩ 8 (by kernel_rfl) (by kernel_rfl) (by kernel_rfl) (by kernel_rfl)) ?_
  intro W base args ds gs before hval0 hW hcnd _
  have hval : ∀ (j : Nat) t v, Try.f10.params[j]? = some t → args[j]? = some v → Value.okWide Try.prog W .any base t v := hval0
  have hW' := hW
  obtain ⟨p, q, hA0, hV, rfl, hfz, hnd⟩ := hW
  have hA : DataW.TrodAll enc Try.prog W 0 (fun _ => true) true Try.f10.params.toList args.toList ds p := hA0
  rw [Try.params10] at hA hval
  obtain ⟨v0, vs0, d0, ds0, p0, q0, hargs, rfl, rfl, h0, r0⟩ := trodAll_cons hA
  obtain ⟨v1, vs1, d1, ds1, p1, q1, rfl, rfl, rfl, h1, r1⟩ := trodAll_cons r0
  obtain ⟨rfl, rfl, rfl⟩ := trodAll_nil r1
  obtain rfl : args = #[v0, v1] := by cases args; simp_all
  obtain ⟨zs0, w0, l0, hr0⟩ := arg_ints Try.underlying22 Try.underlying49 (by kernel_rfl) (hval 0 22 v0 rfl rfl) h0
  obtain ⟨a0, ok0, e0⟩ := as_limbs zs0 w0
  rw [e0] at hr0
  obtain ⟨zs1, w1, l1, hr1⟩ := arg_ints Try.underlying22 Try.underlying49 (by kernel_rfl) (hval 1 22 v1 rfl rfl) h1
  obtain ⟨a1, ok1, e1⟩ := as_limbs zs1 w1
  rw [e1] at hr1
  refine (law_calls (NatBack_fn ok0 ok1) (.cons hr0 (.cons hr1 .nil))).mono fun e W' ⟨he, hb⟩ => ?_
  subst he
  exact ⟨_, rfl, post_law hW' rfl (fun hg => by subst hg; rfl) rfl Try.underlying4 laid params hb⟩

theorem over : Rows.natBackRow.holds Try.pinned (OpenSpec.ofChange Rows.natBackSpec) :=
  OpenClaim.holds_of_wide 10 Try.f10 rfl rfl rfl rfl rfl rfl rfl ⟨rfl, rfl, rfl, rfl, rfl⟩ rfl rfl rfl rfl rfl (by kernel_rfl) Try.func10 (by kernel_rfl)
    (of_decide_eq_true (by kernel_rfl)) (by unfold Func.isWrapper; first | (rw [if_pos (by decide +kernel)]; kernel_rfl) | (rw [if_neg (by decide +kernel)]; exact ⟨rfl, rfl⟩))
    (fun os started H enc _ => lifted os started H enc)

theorem proved : Rows.NatBackSaid :=
  over
end Go.Proofs.Yteiemckogcbjnaa.natBack
