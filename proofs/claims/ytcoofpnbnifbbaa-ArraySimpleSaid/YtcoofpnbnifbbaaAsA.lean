/-
  The law: its function printed as a pure function, its contract, the plain law, the statement
-/
import Derived.Test.YtcoofpnbnifbbaaArE
import Derived.Test.YtcoofpnbnifbbaaRows
set_option linter.unusedVariables false
/-
  GP: the law ArrayBack.
-/
namespace Go.FL
open Go Go.Proofs

end Go.FL
/-
  GP: the law ArrayDeeper.
-/
namespace Go.FL
open Go Go.Proofs

end Go.FL
/-
  GP: the law ArrayInts.
-/
namespace Go.FL
open Go Go.Proofs

end Go.FL
/-
  GP: the law ArraySimple.
-/
namespace Go.FL
open Go Go.Proofs

def law03_ArraySimple (a0 : RT) (a1 : Int) (a2 : ByteArray) : Option (Bool) := (law03_live.bind fun x1 => (Option.bind ((if x1 = true then ((arText a2).bind fun x3 => ((ref03_Text a2).bind fun x4 => ((ref3_Same x3 x4).bind fun x5 => (some (!x5))))) else (some true)) : Option (Bool)) fun (z1 : Bool) => (if z1 = true then (some (false)) else ((array_Rat a0).bind fun x6 => ((array_Char a1).bind fun x7 => ((ref03_Int 0).bind fun x8 => ((ref03_Int 0).bind fun x9 => ((ref2Right a0).bind fun x10 => (jn (fun (z11 : Arr) => ((ref03_IsChar a1).bind fun x13 => (jn (fun (z14 : Arr) => ((ref3_Same x6 z11).bind fun x16 => (Option.bind ((if x16 = true then ((ref3_Same x7 z14).bind fun x18 => (some x18)) else (some false)) : Option (Bool)) fun (z16 : Bool) => (some (z16))))) fun K1 => (if x13 = true then ((ref03_Char a1).bind fun x15 => (K1 x15)) else (K1 x9))))) fun K0 => (if x10 = true then ((ref03_Num a0).bind fun x12 => (K0 x12)) else (K0 x8)))))))))))
theorem law03_ArraySimple_ok {a0 : RT} {a1 : Int} {a2 : ByteArray} {r : Bool} (h : law03_ArraySimple a0 a1 a2 = some r) :
    Fn Try.prog 7 [.ag [.b a0.1, .sl (L a0.2.1), .sl (L a0.2.2)], .i .i32 a1, .s a2] (.d (.b r)) := by
  unfold law03_ArraySimple at h
  refine Fn.of (rs := [.tmp 6]) (nt := 43) Try.func7 rfl rfl rfl (by simp) rfl ?_
  refine .seq ?_
  refine .region ?_
  refine vk (vbx) ?_
  refine asd ?_
  refine rn ?_
  refine .gh (Gh.keep [1, 2, 3, 6] rfl) ?_
  refine .seq ?_
  refine .seq ?_
  obtain ⟨x1, hx1, h⟩ := bnd h
  obtain ⟨z1, hz, h⟩ := bnd h
  refine AW.mr (σ := Unit) (fun _ => True) (fun _ => [(1, .d (.i .i32 a1)), (3, .d (.ptr [.b a0.1, .sl (L a0.2.1), .sl (L a0.2.2)])), (6, .d (.b false)), (20, .d (.b z1))]) (fun _ => []) ?_ ?_
  · skip
    refine .region ?_
    refine vk (vcl0 (law03_live_ok hx1) Try.call16) ?_
    refine vk (vnt) ?_
    by_cases hc : x1 = true
    · replace hz := ite_t hc hz
      have hb0 : (!x1) = false := (ntf hc)
      refine vk (VOK.lit (vmvd) hb0) ?_
      refine vk (vmvd) ?_
      obtain ⟨x3, hx3, hz⟩ := bnd hz
      refine vk (vcl0 (arText_ok hx3) Try.call33) ?_
      refine vk (vmvd) ?_
      obtain ⟨x4, hx4, hz⟩ := bnd hz
      refine vk (vcl0 (ref03_Text_ok hx4) Try.call34) ?_
      obtain ⟨x5, hx5, hz⟩ := bnd hz
      refine vk (vcl0 (ref3_Same_ok hx5) Try.call21) ?_
      refine vk (vnt) ?_
      refine vk (vpkd) ?_
      refine RL.gh (Gh.keep [1, 3, 6, 20] rfl) ?_
      refine .nil ?_
      cases hz
      exact jr () trivial
    replace hz := ite_f hc hz
    have hb0 : (!x1) = true := (ntt (bf hc))
    refine vk (VOK.lit (vmvd) hb0) ?_
    refine gf ?_
    refine gf ?_
    refine gf ?_
    refine gf ?_
    refine gf ?_
    refine gf ?_
    refine vk (vpkd) ?_
    refine RL.gh (Gh.keep [1, 3, 6, 20] rfl) ?_
    refine .nil ?_
    cases hz
    exact jr () trivial
  rintro _ _
  by_cases hc : z1 = true
  · replace h := ite_t hc h
    refine cnt hc ?_
    refine .seq ?_
    refine .region ?_
    refine asd ?_
    refine rn ?_
    refine .gh (Gh.keep [1, 3, 6] rfl) ?_
    refine .ret ?_
    cases h
    exact ⟨rfl, rfl⟩
  replace h := ite_f hc h
  refine cnf (bf hc) ?_
  refine .skip ?_
  show AW _ _ _ _ _ _
  refine .seq ?_
  refine .region ?_
  refine vk (vlda gA_R gS_R) ?_
  obtain ⟨x6, hx6, h⟩ := bnd h
  refine vk (vcl0 (array_Rat_ok hx6) Try.call35) ?_
  refine vk (vmvd) ?_
  obtain ⟨x7, hx7, h⟩ := bnd h
  refine vk (vcl0 (array_Char_ok hx7) Try.call36) ?_
  refine vk (van (zero_of gI_Arr) gZ_Arr) ?_
  refine vk (van (zero_of gI_Arr) gZ_Arr) ?_
  refine stn ?_ gS_Arr (by decide)
  refine stn ?_ gS_Arr (by decide)
  refine rn ?_
  refine .gh (Gh.keep [1, 3, 6, 7, 8] rfl) ?_
  refine .seq ?_
  refine .region ?_
  obtain ⟨x8, hx8, h⟩ := bnd h
  refine vk (vcl0 (ref03_Int_ok hx8) Try.call37) ?_
  obtain ⟨x9, hx9, h⟩ := bnd h
  refine vk (vcl0 (ref03_Int_ok hx9) Try.call37) ?_
  refine vk (van (zero_of gI_Arr) gZ_Arr) ?_
  refine vk (van (zero_of gI_Arr) gZ_Arr) ?_
  refine stn ?_ gS_Arr (by decide)
  refine stn ?_ gS_Arr (by decide)
  refine rn ?_
  refine .gh (Gh.keep [1, 3, 6, 7, 8, 9, 10] rfl) ?_
  refine .seq ?_
  refine .seq ?_
  refine .region ?_
  refine vk (vlda gA_R gS_R) ?_
  obtain ⟨x10, hx10, h⟩ := bnd h
  refine vk (vcl0 (ref2Right_ok hx10) Try.call38) ?_
  refine rn ?_
  refine .gh (Gh.keep [1, 3, 6, 7, 8, 9, 10, 28] rfl) ?_
  obtain ⟨K0, hK0, h⟩ := jn_out h
  refine AW.mr (σ := Arr) (fun p => K0 p = some r) (fun p => [(1, .d (.i .i32 a1)), (6, .d (.b false)), (7, .nb [.sl (Is x6.shape), .sl (Its x6.items)]), (8, .nb [.sl (Is x7.shape), .sl (Its x7.items)]), (9, .nb [.sl (Is p.shape), .sl (Its p.items)]), (10, .nb [.sl (Is x9.shape), .sl (Its x9.items)])]) (fun p => []) ?_ ?_
  · skip
    by_cases hc : x10 = true
    · replace h := ite_t hc h
      refine cnt hc ?_
      refine .region ?_
      refine vk (vlda gA_R gS_R) ?_
      obtain ⟨x12, hx12, h⟩ := bnd h
      refine vk (vcl0 (ref03_Num_ok hx12) Try.call39) ?_
      refine stn ?_ gS_Arr (by decide)
      refine RL.gh (Gh.keep [1, 6, 7, 8, 9, 10] rfl) ?_
      refine .nil ?_
      exact jr (x12) h
    replace h := ite_f hc h
    refine cnf (bf hc) ?_
    refine .gh (Gh.keep [1, 6, 7, 8, 9, 10] rfl) ?_
    refine .skip ?_
    exact jr (x8) h
  rintro z11 h
  try dsimp only at h ⊢
  subst hK0
  show AW _ _ _ _ _ _
  refine .seq ?_
  refine .seq ?_
  refine .region ?_
  refine vk (vmvd) ?_
  obtain ⟨x13, hx13, h⟩ := bnd h
  refine vk (vcl0 (ref03_IsChar_ok hx13) Try.call40) ?_
  refine rn ?_
  refine .gh (Gh.keep [1, 6, 7, 8, 9, 10, 32] rfl) ?_
  obtain ⟨K1, hK1, h⟩ := jn_out h
  refine AW.mr (σ := Arr) (fun p => K1 p = some r) (fun p => [(6, .d (.b false)), (7, .nb [.sl (Is x6.shape), .sl (Its x6.items)]), (8, .nb [.sl (Is x7.shape), .sl (Its x7.items)]), (9, .nb [.sl (Is z11.shape), .sl (Its z11.items)]), (10, .nb [.sl (Is p.shape), .sl (Its p.items)])]) (fun p => []) ?_ ?_
  · skip
    by_cases hc : x13 = true
    · replace h := ite_t hc h
      refine cnt hc ?_
      refine .region ?_
      refine vk (vmvd) ?_
      obtain ⟨x15, hx15, h⟩ := bnd h
      refine vk (vcl0 (ref03_Char_ok hx15) Try.call41) ?_
      refine stn ?_ gS_Arr (by decide)
      refine RL.gh (Gh.keep [6, 7, 8, 9, 10] rfl) ?_
      refine .nil ?_
      exact jr (x15) h
    replace h := ite_f hc h
    refine cnf (bf hc) ?_
    refine .gh (Gh.keep [6, 7, 8, 9, 10] rfl) ?_
    refine .skip ?_
    exact jr (x9) h
  rintro z14 h
  try dsimp only at h ⊢
  subst hK1
  show AW _ _ _ _ _ _
  refine .seq ?_
  obtain ⟨x16, hx16, h⟩ := bnd h
  obtain ⟨z16, hz, h⟩ := bnd h
  refine AW.mr (σ := Unit) (fun _ => True) (fun _ => [(6, .d (.b z16))]) (fun _ => []) ?_ ?_
  · skip
    refine .region ?_
    refine vk (vldn gA_Arr gS_Arr) ?_
    refine vk (vldn gA_Arr gS_Arr) ?_
    refine vk (vcl0 (ref3_Same_ok hx16) Try.call21) ?_
    by_cases hc : x16 = true
    · replace hz := ite_t hc hz
      have hb0 : x16 = true := hc
      refine vk (VOK.lit (vmvd) hb0) ?_
      refine vk (vldn gA_Arr gS_Arr) ?_
      refine vk (vldn gA_Arr gS_Arr) ?_
      obtain ⟨x18, hx18, hz⟩ := bnd hz
      refine vk (vcl0 (ref3_Same_ok hx18) Try.call21) ?_
      refine vk (vpkd) ?_
      refine asd ?_
      refine RL.gh (Gh.keep [6] rfl) ?_
      refine .nil ?_
      cases hz
      exact jr () trivial
    replace hz := ite_f hc hz
    have hb0 : x16 = false := (bf hc)
    refine vk (VOK.lit (vmvd) hb0) ?_
    refine gf ?_
    refine gf ?_
    refine gf ?_
    refine vk (vpkd) ?_
    refine asd ?_
    refine RL.gh (Gh.keep [6] rfl) ?_
    refine .nil ?_
    cases hz
    exact jr () trivial
  rintro _ _
  refine .ret ?_
  cases h
  exact ⟨rfl, rfl⟩
end Go.FL
/-
  Plain laws of arrays, 6: the document's way; the four laws.
-/
namespace Go.FL
open Go Go.Proofs

theorem refCopy_eq {a : RT} (ha : okRB a = true) : ref02_Copy a = some a := by
  obtain ⟨_, _, h1, h2⟩ := okRB_iff.1 ha
  unfold ref02_Copy
  rw [ap_eq (by simp; omega), Option.bind_some, ap_eq (by simp; omega)]; rfl
theorem refNum_eq {a : RT} (ha : okRB a = true) : ref03_Num a = some (.mk [] [.mk 1 a 0 []]) := by
  unfold ref03_Num; rw [refCopy_eq ha]; rfl
theorem refInt_eq {z : Int} (h : in64 z) : ref03_Int z = some (.mk [] [numI z]) := by
  unfold ref03_Int; rw [ref_ofInt_q h.1 h.2, Option.bind_some, refNum_eq (ofQ_okRB (fits_in64 h))]; rfl
theorem refText_loop {s : ByteArray} (K : List Itm → Option Arr) : ∀ (n pos k : Nat) (t : List Itm), n = s.size - pos → n < k → t.length ≤ 4096 →
    ref03_Text_l1 s K k t pos = K (t ++ ((runesR s s.size pos).take (4096 - t.length)).map charI)
  | _, _, 0, _, _, h, _ => by omega
  | n, pos, k + 1, t, hn, hk, ht => by
    rw [ref03_Text_l1]
    by_cases hp : pos < s.size
    · have := rnext_gt s pos
      rw [if_pos hp, runesR_step hp]
      by_cases hc : t.length < 4096
      · have e : 4096 - t.length = (4096 - (t.length + 1)) + 1 := by omega
        rw [if_pos (by omega), ap_eq (by simp; omega), Option.bind_some, refText_loop K (s.size - rnext s pos) (rnext s pos) k _ rfl (by omega) (by simp; omega), e, List.take_succ_cons, List.map_cons, List.append_assoc, List.length_append]
        rfl
      · rw [if_neg (by omega), refText_loop K (s.size - rnext s pos) (rnext s pos) k _ rfl (by omega) ht, show 4096 - t.length = 0 by omega, List.take_zero, List.take_zero]
    · rw [if_neg hp, runesR_end hp, List.take_nil, List.map_nil, List.append_nil]
theorem refText_eq {s : ByteArray} (hl : s.size ≤ 140737488355327) : ref03_Text s = some (vecOf (charI 32) ((runesOf s).map charI)) := by
  unfold ref03_Text
  rw [jn_ar]
  have := refText_loop (s := s) (fun z1 => jn (fun (z5 : List Itm) => some (Arr.mk [((List.length z1 : Nat) : Int)] z5)) fun K2 => if ((List.length z1 : Nat) : Int) = 0 then ((ref03_Char 32).bind fun x6 => K2 x6.items) else K2 z1) s.size 0 FUEL [] rfl (fuel_gt (by omega)) (by simp)
  rw [List.nil_append, show 4096 - ([] : List Itm).length = 4096 from rfl] at this
  rw [this]
  show jn _ _ = _
  rw [jn_ar]
  unfold vecOf runesOf
  generalize runesR s s.size 0 = l
  have hlen : ((l.take 4096).map charI).length = min l.length 4096 := by rw [List.length_map, List.length_take, Nat.min_comm]
  rw [hlen, List.length_map]
  by_cases h0 : l.length = 0
  · rw [if_pos (by omega), if_pos h0]; rfl
  · rw [if_neg (by omega), if_neg h0, List.map_take]
theorem same_self {a : Arr} (h : okAr a) : ref3_Same a a = some true := (r3_same h).yes rfl

theorem vecC_ok (l : List Int) (h : ∀ c ∈ l, chB c = true) : okAr (vecOf (charI 32) (l.map charI)) := by
  refine (vec_parts ⟨rI_char rfl, rfl⟩ ?_).2.1 (okI_char rfl) ?_
  · intro x hx; obtain ⟨c, hc, rfl⟩ := List.mem_map.1 hx; exact ⟨rI_char (h c hc), rfl⟩
  · intro x hx; obtain ⟨c, hc, rfl⟩ := List.mem_map.1 hx; exact okI_char (h c hc)
theorem Rat_eq {a : RT} (h : okRB a = true) : array_Rat a = some (if rightR a = true then .mk [] [.mk 1 a 0 []] else .mk [] [numI 0]) := by
  unfold array_Rat
  rw [ratRight_eq h, Option.bind_some]
  split
  · rw [number_item h, Option.bind_some]; rfl
  · rw [Int_eq in64_zero]; rfl
theorem Char_eq (c : Int) : array_Char c = some (if chB c = true then .mk [] [charI c] else .mk [] [numI 0]) := by
  unfold array_Char
  rw [isChar_eq, Option.bind_some]
  split
  · rfl
  · rw [Int_eq in64_zero]; rfl
theorem lawSimple {a : RT} {c : Int} {s : ByteArray} (ha : okRB a = true) (hs : s.size ≤ 140737488355327) : law03_ArraySimple a c s = some true := by
  unfold law03_ArraySimple
  have hv : okAr (vecOf (charI 32) ((runesOf s).map charI)) := vecC_ok _ (runesR_right s _ _)
  have h0 := one_ok (numI_ok in64_zero)
  rw [live3, Option.bind_some, if_pos rfl, arText_eq, Option.bind_some, refText_eq hs, Option.bind_some, same_self hv, Option.bind_some, Bool.not_true, Option.bind_some, if_neg (by decide), Rat_eq ha, Option.bind_some, Char_eq, Option.bind_some,
    refInt_eq in64_zero, Option.bind_some, Option.bind_some, ref2Right_eq ha, Option.bind_some, jn_ar]
  have hI : ref03_IsChar c = some (chB c) := rfl
  have hC : ref03_Char c = some (.mk [] [charI c]) := rfl
  have hX : okAr (if chB c = true then .mk [] [charI c] else .mk [] [numI 0]) := by
    split
    · rename_i h; exact one_ok (okI_char h)
    · exact h0
  have hend : ∀ z : Arr, okAr z → ((ref03_IsChar c).bind fun x13 => jn (fun (z14 : Arr) => (ref3_Same z z).bind fun x16 => Option.bind (if x16 = true then ((ref3_Same (if chB c = true then .mk [] [charI c] else .mk [] [numI 0]) z14).bind fun x18 => some x18) else some false : Option Bool) fun (z16 : Bool) => some z16) fun K1 => if x13 = true then ((ref03_Char c).bind fun x15 => K1 x15) else K1 (.mk [] [numI 0])) = some true := by
    intro z hz
    rw [hI, Option.bind_some, jn_ar, same_self hz, hC]
    by_cases h : chB c = true
    · rw [if_pos h, if_pos h] at *
      rw [Option.bind_some]
      show Option.bind (some true) _ = _
      rw [Option.bind_some, if_pos rfl, same_self hX]; rfl
    · rw [if_neg h, if_neg h] at *
      show Option.bind (some true) _ = _
      rw [Option.bind_some, if_pos rfl, same_self hX]; rfl
  by_cases hr : rightR a = true
  · rw [if_pos hr, if_pos hr, refNum_eq ha, Option.bind_some]
    exact hend _ (one_ok (okI_num ha))
  · rw [if_neg hr, if_neg hr]
    exact hend _ h0

theorem saidSimple {a : RT} {c : Int} {s : ByteArray} {p : Prop} (ha : okRB a = true) (_ : p) (hs : s.size ≤ 140737488351232) : law03_ArraySimple a c s = some true := lawSimple ha (by omega)
end Go.FL
/-
  The statement ArraySimpleSaid: for every input the law gives true, and each argument reads as it read before.
-/
namespace Go.Proofs.Ytcoofpnbnifbbaa.arraySimple
open Go.ChangeShapes Go.WideShapes Go.ChangeAt Go.RowKit Go.FL

theorem own : ownKnob Try.prog.godebug = none := by kernel_rfl
theorem laid : laidOutB Try.prog = true := by kernel_rfl
theorem params : ∀ t ∈ Try.f7.params.toList, Try.prog.readableRec t = true ∧ t < Try.prog.types.size := by
  intro t ht
  simp only [Try.params7, List.mem_cons, List.not_mem_nil, or_false] at ht
  rcases ht with rfl | rfl | rfl <;> exact ⟨by kernel_rfl, of_decide_eq_true (by kernel_rfl)⟩
set_option maxRecDepth 100000 in
theorem lifted (os : Os) (started : os.Started) (H : Type) (enc : TypeId × Value → H) :
    ReturnsInHanded {} Try.checked os 7 .any (Rows.arraySimpleSpec.pre6 enc Try.prog Try.f7 Rows.arraySimpleRow.domain false) (Rows.arraySimpleSpec.post enc Try.prog Try.f7 false true false false) := by
  refine returnsInHanded_of_change_sized (C := Try.checked) own started (by kernel_rfl) Try.func7
    (ChangeSpec.witness6 (enc := enc) (C := Try.checked) false ⟨#[], #[.agg #[.bool false, .slice none 0 0, .slice none 0 0], .int .i32 0, .string ByteArray.empty], []⟩ 8 (by kernel_rfl) (by kernel_rfl) (by kernel_rfl) (by kernel_rfl)) ?_
  intro W base args ds gs before hval0 hW hcnd hsz _
  have hval : ∀ (j : Nat) t v, Try.f7.params[j]? = some t → args[j]? = some v → Value.okWide Try.prog W .any base t v := hval0
  have hW' := hW
  obtain ⟨p, q, hA0, hV, rfl, hfz, hnd⟩ := hW
  have hA : DataW.TrodAll enc Try.prog W 0 (fun _ => true) true Try.f7.params.toList args.toList ds p := hA0
  rw [Try.params7] at hA hval
  obtain ⟨v0, vs0, d0, ds0, p0, q0, hargs, rfl, rfl, h0, r0⟩ := trodAll_cons hA
  obtain ⟨v1, vs1, d1, ds1, p1, q1, rfl, rfl, rfl, h1, r1⟩ := trodAll_cons r0
  obtain ⟨v2, vs2, d2, ds2, p2, q2, rfl, rfl, rfl, h2, r2⟩ := trodAll_cons r1
  obtain ⟨rfl, rfl, rfl⟩ := trodAll_nil r2
  obtain rfl : args = #[v0, v1, v2] := by cases args; simp_all
  obtain ⟨rfl, rfl⟩ := trodVars_none hV
  rw [Try.params7] at hsz
  have w0 : ∀ m ∈ DataW.weights Try.prog 35 d0, m ≤ reachBytes := fun m hm => by simpa using List.all_eq_true.1 hsz m (DataW.weights_mem_each (j := 0) rfl rfl m hm)
  obtain ⟨a0, o0, e0⟩ := arg_agg (v := v0) op_rat (let ⟨cs, h, _⟩ := okWide_struct (P := Try.prog) Try.underlying35 (hval 0 35 v0 rfl rfl); ⟨cs, h⟩) h0 w0
  have w1 : ∀ m ∈ DataW.weights Try.prog 21 d1, m ≤ reachBytes := fun m hm => by simpa using List.all_eq_true.1 hsz m (DataW.weights_mem_each (j := 1) rfl rfl m hm)
  obtain ⟨a1, o1, e1⟩ := arg_int (by kernel_rfl : Try.prog.underlying 21 = some (.int .i32)) (hval 1 21 v1 rfl rfl) h1
  have w2 : ∀ m ∈ DataW.weights Try.prog 9 d2, m ≤ reachBytes := fun m hm => by simpa using List.all_eq_true.1 hsz m (DataW.weights_mem_each (j := 2) rfl rfl m hm)
  obtain ⟨a2, o2, e2⟩ := arg_cell (v := v2) op_str (by obtain ⟨s0, hs0, _⟩ := Go.ChangeMaps.open_string Try.underlying9 (hval 2 9 v2 rfl rfl) h2; subst hs0; rfl) h2 w2
  refine (law_calls (law03_ArraySimple_ok (saidSimple o0 o1 o2)) (.cons e0 (.cons e1 (.cons e2 .nil)))).mono fun e W' ⟨he, hb⟩ => ?_
  subst he
  exact ⟨_, rfl, post_law hW' rfl (fun _ => rfl) rfl Try.underlying4 laid params hb⟩

theorem over : Rows.arraySimpleRow.holds Try.pinned (OpenSpec.ofChange Rows.arraySimpleSpec) :=
  OpenClaim.holds_of_wide 7 Try.f7 rfl rfl rfl rfl rfl rfl rfl ⟨rfl, rfl, rfl, rfl, rfl⟩ rfl rfl rfl rfl rfl (by kernel_rfl) Try.func7 (by kernel_rfl)
    (of_decide_eq_true (by kernel_rfl)) (by unfold Func.isWrapper; first | (rw [if_pos (by decide +kernel)]; kernel_rfl) | (rw [if_neg (by decide +kernel)]; exact ⟨rfl, rfl⟩))
    (fun os started H enc _ => lifted os started H enc)

theorem proved : Rows.ArraySimpleSaid :=
  over
end Go.Proofs.Ytcoofpnbnifbbaa.arraySimple
