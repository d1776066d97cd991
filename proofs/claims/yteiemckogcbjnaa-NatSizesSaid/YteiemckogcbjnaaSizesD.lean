/-
  Part 4 of 4 of the proof: the contracts of the functions, the law
-/
import Derived.Test.YteiemckogcbjnaaSizesC
import Derived.Test.YteiemckogcbjnaaRows
set_option linter.unusedVariables false
/-
  The statement NatSizesSaid: for every input the law gives true, and each argument reads as it read before.
-/
namespace Go.Proofs.Yteiemckogcbjnaa.natSizes
open Go.ChangeShapes Go.WideShapes Go.ChangeAt Go.RowKit Go.FL

theorem own : ownKnob Try.prog.godebug = none := by kernel_rfl
theorem laid : laidOutB Try.prog = true := by kernel_rfl
theorem params : ∀ t ∈ Try.f4.params.toList, Try.prog.readableRec t = true ∧ t < Try.prog.types.size := by
  intro t ht
  simp only [Try.params4, List.mem_cons, List.not_mem_nil, or_false] at ht
  rcases ht with rfl | rfl | rfl <;> exact ⟨by kernel_rfl, of_decide_eq_true (by kernel_rfl)⟩
set_option maxRecDepth 100000 in
theorem lifted (os : Os) (started : os.Started) (H : Type) (enc : TypeId × Value → H) :
    ReturnsInHanded {} Try.checked os 4 .any (Rows.natSizesSpec.pre6 enc Try.prog Try.f4 Rows.natSizesRow.domain false) (Rows.natSizesSpec.post enc Try.prog Try.f4 false true false false) := by
  refine returnsInHanded_of_change_sized (C := Try.checked) own started (by kernel_rfl) Try.func4
    (ChangeSpec.witness6 (enc := enc) (C := Try.checked) false ⟨#[], #[.slice none 0 0, .slice none 0 0, .int .u64 0], []⟩ 8 (by kernel_rfl) (by kernel_rfl) (by kernel_rfl) (by kernel_rfl)) ?_
  intro W base args ds gs before hval0 hW hcnd hsz _
  have hval : ∀ (j : Nat) t v, Try.f4.params[j]? = some t → args[j]? = some v → Value.okWide Try.prog W .any base t v := hval0
  have hW' := hW
  obtain ⟨p, q, hA0, hV, rfl, hfz, hnd⟩ := hW
  have hA : DataW.TrodAll enc Try.prog W 0 (fun _ => true) true Try.f4.params.toList args.toList ds p := hA0
  rw [Try.params4] at hA hval
  obtain ⟨v0, vs0, d0, ds0, p0, q0, hargs, rfl, rfl, h0, r0⟩ := trodAll_cons hA
  obtain ⟨v1, vs1, d1, ds1, p1, q1, rfl, rfl, rfl, h1, r1⟩ := trodAll_cons r0
  obtain ⟨v2, vs2, d2, ds2, p2, q2, rfl, rfl, rfl, h2, r2⟩ := trodAll_cons r1
  obtain ⟨rfl, rfl, rfl⟩ := trodAll_nil r2
  obtain rfl : args = #[v0, v1, v2] := by cases args; simp_all
  obtain ⟨rfl, rfl⟩ := trodVars_none hV
  rw [Try.params4] at hsz
  obtain ⟨zs0, w0, l0, hr0⟩ := arg_ints Try.underlying22 Try.underlying49 (by kernel_rfl) (hval 0 22 v0 rfl rfl) h0
  obtain ⟨a0, ok0, e0⟩ := as_limbs zs0 w0
  rw [e0] at hr0
  obtain ⟨zs1, w1, l1, hr1⟩ := arg_ints_sized Try.underlying22 Try.underlying49 (by kernel_rfl) (hval 1 22 v1 rfl rfl) h1 (fun elems spare he => sized_slice hsz (j := 1) (t := 22) rfl (by rw [he]; rfl) Try.underlying22)
  rw [show Try.prog.bytesOf 49 = 4 by kernel_rfl] at l1
  obtain ⟨a1, ok1, e1⟩ := as_limbs zs1 w1
  have l1' : a1.length ≤ 35184372087808 := by
    have := congrArg List.length e1
    rw [List.length_map, L_length] at this
    rw [show reachBytes = 140737488351232 by decide] at l1
    omega
  rw [e1] at hr1
  obtain ⟨z2, w2, hr2⟩ := arg_int Try.underlying31 (hval 2 31 v2 rfl rfl) h2
  obtain ⟨n2, ok2, rfl⟩ := as_u64 w2
  refine (law_calls (NatSizes_fn ok0 ok1 l1' ok2) (.cons hr0 (.cons hr1 (.cons hr2 .nil)))).mono fun e W' ⟨he, hb⟩ => ?_
  subst he
  exact ⟨_, rfl, post_law hW' rfl (fun _ => rfl) rfl Try.underlying4 laid params hb⟩

theorem over : Rows.natSizesRow.holds Try.pinned (OpenSpec.ofChange Rows.natSizesSpec) :=
  OpenClaim.holds_of_wide 4 Try.f4 rfl rfl rfl rfl rfl rfl rfl ⟨rfl, rfl, rfl, rfl, rfl⟩ rfl rfl rfl rfl rfl (by kernel_rfl) Try.func4 (by kernel_rfl)
    (of_decide_eq_true (by kernel_rfl)) (by unfold Func.isWrapper; first | (rw [if_pos (by decide +kernel)]; kernel_rfl) | (rw [if_neg (by decide +kernel)]; exact ⟨rfl, rfl⟩))
    (fun os started H enc _ => lifted os started H enc)

theorem proved : Rows.NatSizesSaid :=
  over
end Go.Proofs.Yteiemckogcbjnaa.natSizes
