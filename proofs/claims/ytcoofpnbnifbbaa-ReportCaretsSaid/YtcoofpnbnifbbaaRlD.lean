/-
  Part 4 of the base of the proofs: a logic of our own over the calculus, the contracts of the functions
-/
import Derived.Test.YtcoofpnbnifbbaaRlC
set_option linter.unusedVariables false
/-
  strings.Repeat of a space, very often: the buffer that Grow lays has room for all, so no write lays another.
-/
set_option linter.unusedVariables false
namespace Go.Proofs
open Go.Shelf Go.RowKit Go.Lib
variable {P : Program} {ρ : Ren}

/-- A builder whose buffer g has room for cap bytes and holds the bytes l. -/
def Roomy (ρ : Ren) (B b g cap : Nat) (l : List UInt8) (w : World) : Prop :=
  B ≤ b ∧ B ≤ g ∧ g ≠ b ∧ w.heap[b]? = some (.cells #[.pointer (some ⟨b, 0, none⟩), .slice (some ⟨g, 0, none⟩) l.length cap] (ρ.t 72) (0, 0)) ∧
  ∃ cur fz, w.heap[g]? = some (.cells cur (ρ.t 5) fz) ∧ fz.2 ≤ l.length ∧ l.length ≤ cap ∧ cap ≤ maxLen ∧ cur.size = cap ∧ cur.toList.take l.length = byteCells l
theorem Roomy.builder {B b g cap : Nat} {l : List UInt8} {w : World} (h : Roomy ρ B b g cap l w) : IsBuilderF (ρ.t 72) (ρ.t 5) B b (byteCells l) w := by
  obtain ⟨h1, h2, h3, h4, cur, fz, h5, h6, h7, h8, h9, h10⟩ := h
  refine .inr ⟨h1, _, h4, ?_, by simp [Value.ownBlock, h3]⟩
  rw [byteCells_length]
  exact ⟨by simp [byteCells_length], .inr ⟨g, cap, cur, fz, rfl, h2, h5, by simpa using h6, h7, h8, by simpa using h9, by simpa using h10⟩⟩
theorem Roomy.froze {B b g cap : Nat} {l : List UInt8} {w : World} (h : Roomy ρ B b g cap l w) : Roomy ρ B b g cap l (w.freeze ⟨g, 0, none⟩ l.length) := by
  have h0 := h
  obtain ⟨h1, h2, h3, h4, cur, ⟨lo, hi⟩, h5, h6, h7, h8, h9, h10⟩ := h
  unfold World.freeze
  split
  · exact h0
  · refine ⟨h1, h2, h3, ?_, cur, (if lo == hi then (0, 0 + l.length) else (min lo 0, max hi (0 + l.length))), ?_, ?_, h7, h8, h9, h10⟩
    · simp only [Array.getElem?_modify]
      rw [if_neg h3]; exact h4
    · simp [Array.getElem?_modify, h5]
    · simp only at h6
      split <;> simp <;> omega

set_option maxHeartbeats 2000000 in
set_option maxRecDepth 100000 in
theorem roomy_string (L : Lays.n169 P ρ) (X : Builder.Extra P ρ) (B b g cap : Nat) (l : List UInt8) (w : World) (h : Roomy ρ B b g cap l w) (h0 : l ≠ []) :
    Calls P (ρ.f 169) #[.pointer (some ⟨b, 0, none⟩)] w fun e w' => e = .returned (.string ⟨l.toArray⟩) ∧ (Roomy ρ B b g cap l w' ∧ Below B w w') := by
  have hkeep : Roomy ρ B b g cap l (w.drew.freeze ⟨g, 0, none⟩ l.length) := Roomy.froze (w := w.drew) h
  obtain ⟨h1, h2, h3, h4, cur, fz, h5, h6, h7, h8, h9, h10⟩ := h
  have hl0 : l.length ≠ 0 := by simpa using h0
  have c1 : w.drew.cell? ⟨b, 1, none⟩ = some (.slice (some ⟨g, 0, none⟩) l.length cap) := by
    have : w.drew.heap[b]? = some (.cells #[.pointer (some ⟨b, 0, none⟩), .slice (some ⟨g, 0, none⟩) l.length cap] (ρ.t 72) (0, 0)) := h4
    rw [Lib.cell_of_heap this]; rfl
  have hSD : (Builtin.unsafeSliceData_ #[(ρ.t 37)] (ρ.t 127) #[.slice (some ⟨g, 0, none⟩) l.length cap]).run P w.drew = .ok (.pointer (some ⟨g, 0, none⟩)) w.drew :=
    Lib.run_unsafeSliceData_row _ _ _ _ _ _ (by omega)
  have hUS : (Builtin.unsafeString_ #[(ρ.t 127), (ρ.t 3)] (ρ.t 9) #[.pointer (some ⟨g, 0, none⟩), .int .i64 l.length]).run P w.drew = .ok (.string ⟨l.toArray⟩) (w.drew.freeze ⟨g, 0, none⟩ l.length) := by
    have hg' : w.drew.heap[g]? = some (.cells cur (ρ.t 5) fz) := h5
    refine Lib.run_unsafeString_row w.drew (ρ.t 127) (ρ.t 3) (ρ.t 9) (ρ.t 5) L.t127 X.cellsByte g cur.size (by simp [World.shape?, hg']) l h0 (by omega) (by unfold maxLen at h8; omega) ?_
    intro j x hx
    have hj : (byteCells l)[j]? = some (.int .u8 x.toNat) := by simp [Lib.byteCells, hx]
    rw [← h10, List.getElem?_take] at hj
    split at hj
    · have hb := Lib.cell_of_heap hg' j
      rw [Addr.add_lit, Nat.zero_add, hb]; simpa using hj
    · cases hj
  have mixed := L.mixed
  have t72 := L.t72; have a72 := L.a72; have z72 := L.z72; have v72 := L.v72; have u72 := run_underlying L.t72
  have t70 := L.t70; have a70 := L.a70; have z70 := L.z70; have v70 := L.v70; have u70 := run_underlying L.t70
  have t37 := L.t37; have a37 := L.a37; have z37 := L.z37; have v37 := L.v37; have u37 := run_underlying L.t37
  have t127 := L.t127; have a127 := L.a127; have z127 := L.z127; have v127 := L.v127; have u127 := run_underlying L.t127
  have t3 := L.t3; have a3 := L.a3; have z3 := L.z3; have v3 := L.v3; have u3 := run_underlying L.t3
  have t9 := L.t9; have a9 := L.a9; have z9 := L.z9; have v9 := L.v9; have u9 := run_underlying L.t9
  have t5 := X.t5; have a5 := X.a5; have z5 := X.z5; have v5 := X.v5; have u5 := run_underlying X.t5
  go_enter L.f169, Body.n169_ntmps ρ
  go_wp2
  go_region_o
  all_goals (go_wp2; go_ret; exact ⟨rfl, hkeep, Lib.below_freeze (Below.drew (Below.refl B w)) (p := ⟨g, 0, none⟩) h2 _⟩)

/-- An append whose run is known. -/
theorem wpList_append_run {ops : Array Oper} {rest : List Oper} {o : Oper} {a : Act} {Q : Exit → Act → World → Prop} {w w' : World} {v v' x' : Value} (hgd : o.guard = none) (sl x : Operand) (t u : TypeId)
    (ho : o.op = .call { callee := .builtin .append, args := #[sl, x], argTypes := #[t, u] }) (hs : a.eval sl = v) (hx : a.eval x = x') (hr : (Builtin.append_ #[t, u] o.type #[v, x']).run P w = .ok v' w')
    (h : wpList P ops Q rest (a.put o.dst v') w') : wpList P ops Q (o :: rest) a w := by
  refine wpList_plain hgd fun K hK => ?_
  unfold Oper.wp execOp
  simp only [ho, resolve, invoke, builtin, Sem.run_bind, Sem.run_pure, Result.andThen_ok, List.map_toArray, List.map_cons, List.map_nil, hs, hx, hr]
  exact hK _ _ h

set_option maxHeartbeats 2000000 in
set_option maxRecDepth 100000 in
theorem roomy_write (L : Lays.n166 P ρ) (X : Builder.Extra P ρ) (B b g cap : Nat) (l : List UInt8) (s : ByteArray) (w : World) (h : Roomy ρ B b g cap l w) (hs : l.length + s.size ≤ cap) :
    Calls P (ρ.f 166) #[.pointer (some ⟨b, 0, none⟩), .string s] w fun e w' => e = .returned (.tuple #[.int .i64 s.size, .nilIface]) ∧ (Roomy ρ B b g cap (l ++ s.data.toList) w' ∧ Below B w w') := by
  obtain ⟨h1, h2, h3, h4, cur, fz, h5, h6, h7, h8, h9, h10⟩ := h
  obtain ⟨i0, hi, hz0, hz1, hz2⟩ := info_parts X.infoByte
  have hap := run_append_room_stringF (P := P) w (ρ.t 37) (ρ.t 9) (ρ.t 37) (ρ.t 5) i0 L.t37 L.t9 hi hz1 g l.length cap cur fz h5 h6 s hs (by omega)
  obtain ⟨cs, hcs⟩ : ∃ cs : Array Value, (cur.toList.take l.length ++ strCells s ++ cur.toList.drop (l.length + s.size)).toArray = cs := ⟨_, rfl⟩
  rw [hcs] at hap
  have hsz : cs.size = cap := by
    rw [← hcs]
    simp only [List.size_toArray, List.length_append, List.length_take, List.length_drop, Array.length_toList, strCells_length]
    omega
  have htk : cs.toList.take (l ++ s.data.toList).length = byteCells (l ++ s.data.toList) := by
    rw [← hcs, h10, byteCells_append, ← strCells_eq]
    have hl : (byteCells l ++ strCells s).length = (l ++ s.data.toList).length := by
      rw [List.length_append, byteCells_length, strCells_length, List.length_append, size_eq]
    rw [← hl]
    exact List.take_left
  have hb1 : (w.setRow g cs).heap[b]? = some (.cells #[.pointer (some ⟨b, 0, none⟩), .slice (some ⟨g, 0, none⟩) l.length cap] (ρ.t 72) (0, 0)) := (setRow_other w g b cs (Ne.symm h3)).trans h4
  have hg1 : (w.setRow g cs).heap[g]? = some (.cells cs (ρ.t 5) fz) := setRow_heap w g cur cs _ _ h5
  have c0 : w.cell? ⟨b, 0, none⟩ = some (.pointer (some ⟨b, 0, none⟩)) := by rw [Lib.cell_of_heap h4]; rfl
  have c1 : w.cell? ⟨b, 1, none⟩ = some (.slice (some ⟨g, 0, none⟩) l.length cap) := by rw [Lib.cell_of_heap h4]; rfl
  have d0 : (w.setRow g cs).cell? ⟨b, 0, none⟩ = some (.pointer (some ⟨b, 0, none⟩)) := by rw [Lib.cell_of_heap hb1]; rfl
  have d1 : (w.setRow g cs).cell? ⟨b, 1, none⟩ = some (.slice (some ⟨g, 0, none⟩) l.length cap) := by rw [Lib.cell_of_heap hb1]; rfl
  have f1 : (w.setRow g cs).frozen? ⟨b, 1, none⟩ = false := Lib.frozen_of_heap hb1 1
  have hfin : Roomy ρ B b g cap (l ++ s.data.toList) ((w.setRow g cs).setCell ⟨b, 1, none⟩ (.slice (some ⟨g, 0, none⟩) (l.length + s.size) cap)) := by
    have hlen : (l ++ s.data.toList).length = l.length + s.size := by rw [List.length_append, size_eq]
    refine ⟨h1, h2, h3, ?_, cs, fz, ?_, by omega, by omega, h8, hsz, htk⟩
    · rw [hlen]; simp [World.setCell, Array.getElem?_modify, hb1]
    · simp [World.setCell, Array.getElem?_modify, hg1, Ne.symm h3]
  have hbel : Below B w ((w.setRow g cs).setCell ⟨b, 1, none⟩ (.slice (some ⟨g, 0, none⟩) (l.length + s.size) cap)) := (Below.trans (Below.refl B w) ⟨rfl, rfl, rfl, by simp [World.setRow], fun k hk => setRow_other w g k cs (by omega)⟩ : Below B w (w.setRow g cs)).setCell (p := ⟨b, 1, none⟩) h1 _
  clear hcs htk hsz
  have mixed := L.mixed
  have t72 := L.t72; have a72 := L.a72; have z72 := L.z72; have v72 := L.v72; have u72 := run_underlying L.t72
  have t70 := L.t70; have a70 := L.a70; have z70 := L.z70; have v70 := L.v70; have u70 := run_underlying L.t70
  have t37 := L.t37; have a37 := L.a37; have z37 := L.z37; have v37 := L.v37; have u37 := run_underlying L.t37
  have t3 := L.t3; have a3 := L.a3; have z3 := L.z3; have v3 := L.v3; have u3 := run_underlying L.t3
  have t9 := L.t9; have a9 := L.a9; have z9 := L.z9; have v9 := L.v9; have u9 := run_underlying L.t9
  have t4 := L.t4; have a4 := L.a4; have z4 := L.z4; have v4 := L.v4; have u4 := run_underlying L.t4
  have t164 := L.t164; have a164 := L.a164; have z164 := L.z164; have v164 := L.v164; have u164 := run_underlying L.t164
  have t5 := X.t5; have a5 := X.a5; have z5 := X.z5; have v5 := X.v5; have u5 := run_underlying X.t5
  have e240 : ∀ args w, (callFunc (ρ.f 240) args).run P w = .ok (.enter (ρ.f 240) args) w := enters_of L.f240 (by kernel_rfl) rfl
  go_enter L.f166, Body.n166_ntmps ρ
  go_wp2_with (first | (at_builtin; refine wpList_append_run rfl _ _ (ρ.t 37) (ρ.t 9) rfl rfl rfl hap ?_) | (go_at_fn (ρ.f 240); refine (Any.Builder_copyCheck_used { L with } X.toX72 b w c0).mono ?_; rintro e w' ⟨rfl, rfl⟩))
  go_ret2
  exact ⟨rfl, hfin, hbel⟩
theorem roomy_grown {B b n : Nat} {w : World} (h : BuilderAt (ρ.t 72) (ρ.t 5) B b (.pointer (some ⟨b, 0, none⟩)) [] w) (hn : 0 < n) (hc : ∃ p cap, w.cell? ⟨b, 1, none⟩ = some (.slice p 0 cap) ∧ n ≤ cap) : ∃ g cap, n ≤ cap ∧ Roomy ρ B b g cap [] w := by
  obtain ⟨hB, v, hbk, hown, hne⟩ := BuilderAtF.of h
  obtain ⟨p, cap, hc, hle⟩ := hc
  rw [Lib.cell_of_heap hbk] at hc
  have hv : v = .slice p 0 cap := by simpa using hc
  subst hv
  rcases hown.2 with ⟨hv, _⟩ | ⟨g, cap', cur, fz, hv, hbg, hg, hfz, hnc, hcm, hcs, htake⟩
  · injection hv with _ _ h3; omega
  · injection hv with ha _ hcap
    subst ha; subst hcap
    exact ⟨g, cap, hle, hB, hbg, fun e => hne (by simp [Value.ownBlock, e]), hbk, cur, fz, hg, by simpa using hfz, Nat.zero_le _, hcm, by simpa using hcs, rfl⟩

set_option maxHeartbeats 4000000 in
set_option maxRecDepth 1000000 in
theorem repeat_big (L : Lays.n105 P ρ) (X : Builder.Extra P ρ) (c : Nat) (w : World) (h1 : 8192 < c) (h2 : c ≤ 281474976710656) :
    Calls P (ρ.f 105) #[.string ⟨#[32]⟩, .int .i64 c] w fun e w' => e = .returned (.string ⟨(List.replicate c (32 : UInt8)).toArray⟩) ∧ Below w.heap.size w w' := by
  have hMul := Any.bits_Mul { L with } 1 c (by omega) (by omega) w
  rw [Nat.one_mul, Nat.div_eq_of_lt (by omega : c < 18446744073709551616), Nat.mod_eq_of_lt (by omega : c < 18446744073709551616)] at hMul
  have g1 : ¬ ((c : Int) ≤ 128) := by omega
  have g2 : ¬ ((c : Int) ≤ 64) := by omega
  have g3 : (8192 : Int) < (c : Int) := by omega
  have t0 := L.t0; have a0 := L.a0; have z0 := L.z0; have v0 := L.v0
  have t3 := L.t3; have a3 := L.a3; have z3 := L.z3; have v3 := L.v3
  have t4 := L.t4; have a4 := L.a4; have z4 := L.z4; have v4 := L.v4
  have t5 := L.t5; have a5 := L.a5; have z5 := L.z5; have v5 := L.v5
  have t9 := L.t9; have a9 := L.a9; have z9 := L.z9; have v9 := L.v9
  have t20 := L.t20; have a20 := L.a20; have z20 := L.z20; have v20 := L.v20
  have t37 := L.t37; have a37 := L.a37; have z37 := L.z37; have v37 := L.v37
  have t46 := L.t46; have a46 := L.a46; have z46 := L.z46; have v46 := L.v46
  have t51 := L.t51; have a51 := L.a51; have z51 := L.z51; have v51 := L.v51
  have t53 := L.t53; have a53 := L.a53; have z53 := L.z53; have v53 := L.v53
  have t70 := L.t70; have a70 := L.a70; have z70 := L.z70; have v70 := L.v70
  have t72 := L.t72; have a72 := L.a72; have z72 := L.z72; have v72 := L.v72
  have t75 := L.t75; have a75 := L.a75; have z75 := L.z75; have v75 := L.v75
  have t76 := L.t76; have a76 := L.a76; have z76 := L.z76; have v76 := L.v76
  have e99 : ∀ args w, (callFunc (ρ.f 99) args).run P w = .ok (.enter (ρ.f 99) args) w := enters_of L.f99 (by kernel_rfl) rfl
  have e165 : ∀ args w, (callFunc (ρ.f 165) args).run P w = .ok (.enter (ρ.f 165) args) w := enters_of L.f165 (by kernel_rfl) rfl
  have e166 : ∀ args w, (callFunc (ρ.f 166) args).run P w = .ok (.enter (ρ.f 166) args) w := enters_of L.f166 (by kernel_rfl) rfl
  have e169 : ∀ args w, (callFunc (ρ.f 169) args).run P w = .ok (.enter (ρ.f 169) args) w := enters_of L.f169 (by kernel_rfl) rfl
  have e170 : ∀ args w, (callFunc (ρ.f 170) args).run P w = .ok (.enter (ρ.f 170) args) w := enters_of L.f170 (by kernel_rfl) rfl
  have e212 : ∀ args w, (callFunc (ρ.f 212) args).run P w = .ok (.enter (ρ.f 212) args) w := enters_of L.f212 (by kernel_rfl) rfl
  go_enter L.f105, Body.n105_ntmps ρ
  go_upto_block 1 with (go_at_fn (ρ.f 212); go_fit hMul; rintro e w' ⟨rfl, hw⟩; rw [hw])
  clear hMul
  go_upto_if 96 with fail
  have b0 : Below w.heap.size w (w.alloc (.cells #[.pointer none, .slice none 0 0] (ρ.t 72))) := (Below.refl _ w).alloc (Nat.le_refl _) _
  have cG := Any.Builder_Grow_fresh_cap { L with } X w.heap.size w.heap.size c (w.alloc (.cells #[.pointer none, .slice none 0 0] (ρ.t 72))) (Nat.le_refl _) (heap_alloc_new w _) b0.size h2
  go_wp2_with (go_at_fn (ρ.f 165); go_fit cG; rintro e W1 ⟨rfl, ⟨k1, b1⟩, k2⟩)
  clear cG
  obtain ⟨g, cap, hcap, R0⟩ := roomy_grown k1 (by omega) k2
  have cW := roomy_write { L with } X w.heap.size w.heap.size g cap [] ⟨#[32]⟩ W1 R0 (by show 0 + 1 ≤ cap; omega)
  go_wp2_with (go_at_fn (ρ.f 166); go_fit cW; rintro e W2 ⟨rfl, R1, b2⟩)
  clear cW
  have b02 : Below w.heap.size w W2 := b0.trans (b1.trans b2)
  have R2 : Roomy ρ w.heap.size w.heap.size g cap (List.replicate 1 (32 : UInt8)) W2 := R1
  clear R0 R1 k1 k2 b0 b1 b2
  go_loopg [] (c - 1) (fun gk wx => ∃ q : Nat, 1 ≤ q ∧ q + gk = c ∧ Roomy ρ w.heap.size w.heap.size g cap (List.replicate q (32 : UInt8)) wx ∧ Below w.heap.size w wx)
  case atStart => exact ⟨1, Nat.le_refl _, by omega, R2, b02⟩
  case round =>
    obtain ⟨q, hq1, hqg, hB, hbx⟩ := hrel
    have cLen := Any.Builder_Len_f { L with } w.heap.size w.heap.size _ wr hB.builder
    rw [byteCells_length, List.length_replicate] at cLen
    have cStr := roomy_string { L with } X w.heap.size w.heap.size g cap (List.replicate q (32 : UInt8)) wr hB (by
      intro h; have := congrArg List.length h; simp at this; omega)
    obtain ⟨S, hS⟩ : ∃ S : ByteArray, (⟨(List.replicate q (32 : UInt8)).toArray⟩ : ByteArray) = S := ⟨_, rfl⟩
    have hSd : S.data.toList = List.replicate q (32 : UInt8) := by rw [← hS]
    have hSz : S.size = q := by rw [size_eq, hSd, List.length_replicate]
    rw [hS] at cStr
    cases gk with
    | zero =>
      obtain rfl : q = c := by omega
      have hQn : ¬ ((q : Int) < (q : Int)) := by omega
      go_wp2_with (first
        | (go_at_fn (ρ.f 170); go_fit cLen; rintro e w' ⟨rfl, hw⟩; rw [hw])
        | (go_at_fn (ρ.f 169); go_fit cStr; rintro e W3 ⟨rfl, h3, b3⟩))
      go_ret
      exact ⟨by rw [hS] <;> rfl, hbx.trans b3⟩
    | succ gk =>
      have hqc : q < c := by omega
      have hQn : (q : Int) < (c : Int) := by omega
      obtain ⟨k, hk⟩ : ∃ k : Nat, min (c - q) (min q 8192) = k := ⟨_, rfl⟩
      have hmin3 : ∀ (ts : Array TypeId) (t : TypeId) (W : World), (Builtin.min_ ts t #[.int .i64 ((c : Int) - (q : Int)), .int .i64 (q : Int), .int .i64 8192]).run P W = .ok (.int .i64 (k : Int)) W := fun ts t W => by
        rw [run_min_int3]
        congr 2
        omega
      have hk1 : 1 ≤ k := by omega
      have hkq : k ≤ q := by omega
      have hkc : q + k ≤ c := by omega
      clear hk
      go_wp2_with (first
        | (go_at_fn (ρ.f 170); go_fit cLen; rintro e w' ⟨rfl, hw⟩; rw [hw])
        | (go_at_fn (ρ.f 169); go_fit cStr; rintro e W3 ⟨rfl, h3, b3⟩))
      have hex : (S.extract 0 k).data.toList = List.replicate k (32 : UInt8) := by
        rw [extract_data, hSd]
        simp only [List.drop_zero, Nat.sub_zero, List.take_replicate]
        congr 1; omega
      have cWr := roomy_write { L with } X w.heap.size w.heap.size g cap _ (S.extract 0 k) W3 h3 (by
        rw [size_eq, hex, List.length_replicate, List.length_replicate]; omega)
      go_wp2_with (go_at_fn (ρ.f 166); go_fit cWr; rintro e W4 ⟨rfl, h4, b4⟩)
      go_roundg (c - (q + k))
      case measure => omega
      case rel =>
        refine ⟨q + k, by omega, by omega, ?_, hbx.trans (b3.trans b4)⟩
        rw [hex, List.replicate_append_replicate] at h4
        exact h4
end Go.Proofs
/-
  Contracts that the report's functions call: strings.Repeat, report.word.
-/
namespace Go.FL
open Go Go.Proofs Go.RowKit

theorem repExtra : Builder.Extra Try.prog Try.laysRepeat_ren where
  sizeBuilder := by kernel_rfl
  liesBuilder := by kernel_rfl
  t5 := Try.laysRepeat.t5
  a5 := Try.laysRepeat.a5
  z5 := Try.laysRepeat.z5
  v5 := Try.laysRepeat.v5
  infoByte := by kernel_rfl
  cellsByte := by kernel_rfl
  sizeByte := by kernel_rfl
  neB5 := by decide
theorem repNum : Try.laysRepeat_ren.f 105 = 72 := by kernel_rfl
def repB (s : ByteArray) (n : Nat) : ByteArray := ⟨(Lib.repeatL s.data.toList n).toArray⟩
theorem repeatL_one32 : ∀ n, Lib.repeatL [(32 : UInt8)] n = List.replicate n 32
  | 0 => rfl
  | n + 1 => by
    show [(32 : UInt8)] ++ Lib.repeatL [32] n = _
    rw [repeatL_one32 n]; rfl
def sRepeat (s : ByteArray) (n : Int) : Option ByteArray := if 0 ≤ n ∧ n ≤ 9223372036854775807 ∧ (s.size * n.toNat ≤ 140737488355328 ∨ (s.data = #[32] ∧ n ≤ 281474976710656)) then some (repB s n.toNat) else none
theorem sRepeat_ok {s : ByteArray} {n : Int} {r : ByteArray} (h : sRepeat s n = some r) : Fn Try.prog 72 [.s s, .i .i64 n] (.d (.s r)) := by
  obtain ⟨hc, h⟩ := ite_n h
  cases h
  obtain ⟨c, rfl⟩ : ∃ c : Nat, n = (c : Int) := ⟨n.toNat, by omega⟩
  refine Fn.of_calls (v := .string (repB s c)) (fun w I => .s _) fun w I vs hv => ?_
  cases hv with
  | cons h1 hv => cases hv with
    | cons h2 hv => cases hv; cases h1; cases h2
                    by_cases hsm : s.size * c ≤ 140737488355328
                    · have := Any.strings_Repeat Try.laysRepeat repExtra s c w (by omega) hsm
                      rw [repNum] at this
                      exact this
                    · obtain ⟨d⟩ := s
                      have h32 : d = #[32] ∧ (c : Int) ≤ 281474976710656 := hc.2.2.resolve_left (by rw [Int.toNat_natCast]; exact hsm)
                      obtain ⟨rfl, hle⟩ := h32
                      have h1 : (⟨#[32]⟩ : ByteArray).size = 1 := rfl
                      rw [h1, Nat.one_mul] at hsm
                      have := repeat_big Try.laysRepeat repExtra c w (by omega) (by omega)
                      rw [repNum] at this
                      have e : repB ⟨#[32]⟩ c = ⟨(List.replicate c (32 : UInt8)).toArray⟩ := by
                        unfold repB
                        rw [← repeatL_one32]
                      rw [e]
                      exact this
/-- The word of an error. -/
def repWord (e : Int) : Option ByteArray := if True then some (wordB e) else none
theorem repWord_ok {e : Int} {r : ByteArray} (h : repWord e = some r) : Fn Try.prog 86 [.i .i64 e] (.d (.s r)) := by
  obtain ⟨hc, h⟩ := ite_n h
  cases h
  exact word_fn e
end Go.FL
/-
  GP: the report.
-/
namespace Go.FL
open Go Go.Proofs

def report_width_l0 (a0 : ByteArray) : Nat → Int → Nat → Option (Int)
  | 0, _, _ => none
  | k + 1, s1, s2 => (if s2 < ByteArray.size a0 then (report_width_l0 a0 k (w64 (s1 + 1)) (rnext a0 s2)) else (some (s1)))
def report_width (a0 : ByteArray) : Option (Int) := (report_width_l0 a0 FUEL 0 0)
theorem report_width_ok {a0 : ByteArray} {r : Int} (h : report_width a0 = some r) :
    Fn Try.prog 71 [.s a0] (.d (.i .i64 r)) := by
  unfold report_width at h
  refine Fn.of (rs := [.tmp 2]) (nt := 11) Try.func71 rfl rfl rfl (by simp) rfl ?_
  refine .seq ?_
  refine .region ?_
  refine asd ?_
  refine rn ?_
  refine .gh (Gh.keep [0, 2] rfl) ?_
  refine .seq ?_
  refine .region ?_
  refine asd ?_
  refine rn ?_
  refine .gh (Gh.keep [0, 2, 3] rfl) ?_
  refine .seq ?_
  refine .seq ?_
  refine .region ?_
  refine vk (vmvd) ?_
  refine vk (vrng st) ?_
  refine rn ?_
  refine .gh (Gh.keep [2, 3, 5] rfl) ?_
  refine .block ?_
  refine .loop (.gh (Gh.keep [2, 3, 5] rfl) ?_)
  refine AL.ind (σ := Nat × Int × Nat) (m := fun p => p.1) (e := fun p => [(2, .d (.i .i64 0)), (3, .d (.i .i64 p.2.1)), (5, .it a0 p.2.2)]) (h := fun p => []) (I := fun p => report_width_l0 a0 p.1 p.2.1 p.2.2 = some r) ?_ (FUEL, 0, 0) h
  rintro ⟨k, s1, s2⟩ h ih
  dsimp only at h ih ⊢
  rcases k with _ | k
  · rw [report_width_l0] at h; cases h
  rw [report_width_l0] at h
  refine .seq ?_
  refine .region ?_
  by_cases hc : s2 < ByteArray.size a0
  · replace h := ite_t hc h
    refine nxt ?_ hc
    refine vk (vex) ?_
    refine rn ?_
    refine .gh (Gh.keep [2, 3, 5, 7] rfl) ?_
    refine .seq ?_
    refine cndt ?_
    refine .skip ?_
    show AW _ _ _ _ _ _
    refine .block ?_
    refine .region ?_
    refine vk (vmvd) ?_
    refine vk (vbi) ?_
    refine asd ?_
    refine .nil ?_
    refine AL.gh (Gh.keep [2, 3, 5] rfl) ?_
    exact ih (k, (w64 (s1 + 1)), (rnext a0 s2)) h (Nat.lt_succ_self _)
  replace h := ite_f hc h
  refine nxe ?_ hc
  refine vk (vex) ?_
  refine rn ?_
  refine .gh (Gh.keep [2, 3, 5, 7] rfl) ?_
  refine .seq ?_
  refine cndf ?_
  refine .exit ?_
  show AW _ _ _ _ _ _
  refine .seq ?_
  refine .region ?_
  refine vk (vmvd) ?_
  refine asd ?_
  refine rn ?_
  refine .gh (Gh.keep [2] rfl) ?_
  refine .ret ?_
  cases h
  exact ⟨rfl, rfl⟩

def report_number (a0 : Int) : Option (ByteArray) := ((ratOfInt a0).bind fun x1 => ((rat_Print x1).bind fun x2 => (some (x2))))
theorem report_number_ok {a0 : Int} {r : ByteArray} (h : report_number a0 = some r) :
    Fn Try.prog 73 [.i .i64 a0] (.d (.s r)) := by
  unfold report_number at h
  refine Fn.of (rs := [.tmp 2]) (nt := 6) Try.func73 rfl rfl rfl (by simp) rfl ?_
  refine .seq ?_
  refine .region ?_
  refine asd ?_
  refine rn ?_
  refine .gh (Gh.keep [0, 2] rfl) ?_
  refine .seq ?_
  refine .region ?_
  refine vk (vmvd) ?_
  obtain ⟨x1, hx1, h⟩ := bnd h
  refine vk (vcl0 (ratOfInt_ok hx1) Try.call64) ?_
  obtain ⟨x2, hx2, h⟩ := bnd h
  refine vk (vcl0 (rat_Print_ok hx2) Try.call110) ?_
  refine asd ?_
  refine rn ?_
  refine .gh (Gh.keep [2] rfl) ?_
  refine .ret ?_
  cases h
  exact ⟨rfl, rfl⟩

def report_Text (a0 : Int) : Option (ByteArray) := ((repWord a0).bind fun x1 => (if a0 = 0 then (some ((⟨#[]⟩ : ByteArray))) else (if a0 = 9 then (some ((⟨#[73, 78, 84, 69, 82, 82, 85, 80, 84]⟩ : ByteArray))) else (if x1 = (⟨#[]⟩ : ByteArray) then ((report_number a0).bind fun x2 => ((sap? (⟨#[69, 82, 82, 79, 82, 32]⟩ : ByteArray) x2).bind fun x3 => (some (x3)))) else ((sap? x1 (⟨#[32, 69, 82, 82, 79, 82]⟩ : ByteArray)).bind fun x4 => (some (x4)))))))
theorem report_Text_ok {a0 : Int} {r : ByteArray} (h : report_Text a0 = some r) :
    Fn Try.prog 44 [.i .i64 a0] (.d (.s r)) := by
  unfold report_Text at h
  refine Fn.of (rs := [.tmp 2]) (nt := 20) Try.func44 rfl rfl rfl (by simp) rfl ?_
  refine .seq ?_
  refine .region ?_
  refine asd ?_
  refine rn ?_
  refine .gh (Gh.keep [0, 2] rfl) ?_
  refine .seq ?_
  refine .seq ?_
  refine .region ?_
  refine vk (vmvd) ?_
  obtain ⟨x1, hx1, h⟩ := bnd h
  refine vk (vcl0 (repWord_ok hx1) Try.call86) ?_
  refine asd ?_
  refine rn ?_
  refine .gh (Gh.keep [0, 2, 3] rfl) ?_
  refine .block ?_
  refine .seq ?_
  refine .region ?_
  refine vk (vmvd) ?_
  refine vk (vbi) ?_
  refine asd ?_
  refine rn ?_
  refine .gh (Gh.keep [0, 2, 3, 6] rfl) ?_
  by_cases hc : a0 = 0
  · replace h := ite_t hc h
    refine cnt (decide_eq_true hc) ?_
    refine .seq ?_
    refine .region ?_
    refine asd ?_
    refine rn ?_
    refine .gh (Gh.keep [0, 2] rfl) ?_
    refine .ret ?_
    cases h
    exact ⟨rfl, rfl⟩
  replace h := ite_f hc h
  refine cnf (decide_eq_false hc) ?_
  refine .seq ?_
  refine .region ?_
  refine vk (vmvd) ?_
  refine vk (vbi) ?_
  refine asd ?_
  refine rn ?_
  refine .gh (Gh.keep [0, 2, 3, 9] rfl) ?_
  by_cases hc : a0 = 9
  · replace h := ite_t hc h
    refine cnt (decide_eq_true hc) ?_
    refine .seq ?_
    refine .region ?_
    refine asd ?_
    refine rn ?_
    refine .gh (Gh.keep [0, 2] rfl) ?_
    refine .ret ?_
    cases h
    exact ⟨rfl, rfl⟩
  replace h := ite_f hc h
  refine cnf (decide_eq_false hc) ?_
  refine .seq ?_
  refine .region ?_
  refine vk (vmvd) ?_
  refine vk (vsq (.inr rfl)) ?_
  refine asd ?_
  refine rn ?_
  refine .gh (Gh.keep [0, 2, 3, 12] rfl) ?_
  by_cases hc : x1 = (⟨#[]⟩ : ByteArray)
  · replace h := ite_t hc h
    refine cnf (ntf (decide_eq_true hc)) ?_
    refine .skip ?_
    show AW _ _ _ _ _ _
    refine .seq ?_
    refine .region ?_
    refine vk (vmvd) ?_
    obtain ⟨x2, hx2, h⟩ := bnd h
    refine vk (vcl0 (report_number_ok hx2) Try.call73) ?_
    obtain ⟨x3, hx3, h⟩ := bnd h
    refine vk (vsa hx3) ?_
    refine asd ?_
    refine rn ?_
    refine .gh (Gh.keep [2] rfl) ?_
    refine .ret ?_
    cases h
    exact ⟨rfl, rfl⟩
  replace h := ite_f hc h
  refine cnt (ntt (decide_eq_false hc)) ?_
  refine .seq ?_
  refine .region ?_
  refine vk (vmvd) ?_
  obtain ⟨x4, hx4, h⟩ := bnd h
  refine vk (vsa hx4) ?_
  refine asd ?_
  refine rn ?_
  refine .gh (Gh.keep [0, 2] rfl) ?_
  refine .ret ?_
  cases h
  exact ⟨rfl, rfl⟩

def report_Prefix (a0 : WT) : Option (ByteArray) := (if a0.1 = (⟨#[]⟩ : ByteArray) then ((sRepeat (⟨#[32]⟩ : ByteArray) 6).bind fun x1 => (some (x1))) else ((sap? a0.1 (⟨#[91]⟩ : ByteArray)).bind fun x2 => ((report_number a0.2.1).bind fun x3 => ((sap? x2 x3).bind fun x4 => ((sap? x4 (⟨#[93, 32]⟩ : ByteArray)).bind fun x5 => (some (x5)))))))
theorem report_Prefix_ok {a0 : WT} {r : ByteArray} (h : report_Prefix a0 = some r) :
    Fn Try.prog 30 [.ag [.s a0.1, .i .i64 a0.2.1, .s a0.2.2.1, .i .i64 a0.2.2.2]] (.d (.s r)) := by
  unfold report_Prefix at h
  refine Fn.of (rs := [.tmp 2]) (nt := 15) Try.func30 rfl rfl rfl (by simp) rfl ?_
  refine .seq ?_
  refine .region ?_
  refine vk (vbx) ?_
  refine asd ?_
  refine rn ?_
  refine .gh (Gh.keep [1, 2] rfl) ?_
  refine .seq ?_
  refine .seq ?_
  refine .region ?_
  refine vk (vfa gF_W_0) ?_
  refine vk (vldp ga_string) ?_
  refine vk (vsq (.inl rfl)) ?_
  refine rn ?_
  refine .gh (Gh.keep [1, 2, 5] rfl) ?_
  by_cases hc : a0.1 = (⟨#[]⟩ : ByteArray)
  · replace h := ite_t hc h
    refine cnt (decide_eq_true hc) ?_
    refine .seq ?_
    refine .region ?_
    obtain ⟨x1, hx1, h⟩ := bnd h
    refine vk (vcl0 (sRepeat_ok hx1) Try.call72) ?_
    refine asd ?_
    refine rn ?_
    refine .gh (Gh.keep [1, 2] rfl) ?_
    refine .ret ?_
    cases h
    exact ⟨rfl, rfl⟩
  replace h := ite_f hc h
  refine cnf (decide_eq_false hc) ?_
  refine .skip ?_
  show AW _ _ _ _ _ _
  refine .seq ?_
  refine .drawn 8 mixed (by kernel_rfl) ?_
  refine dv (vfa gF_W_0) ?_
  refine dv (vldp ga_string) ?_
  obtain ⟨x2, hx2, h⟩ := bnd h
  refine dv (vsa hx2) ?_
  refine dv (vfa gF_W_1) ?_
  refine dv (vldp ga_int) ?_
  obtain ⟨x3, hx3, h⟩ := bnd h
  refine dv (vcl0 (report_number_ok hx3) Try.call73) ?_
  obtain ⟨x4, hx4, h⟩ := bnd h
  refine dv (vsa hx4) ?_
  obtain ⟨x5, hx5, h⟩ := bnd h
  refine dv (vsa hx5) ?_
  refine dz ?_
  refine asd ?_
  refine rn ?_
  refine .gh (Gh.keep [2] rfl) ?_
  refine .ret ?_
  cases h
  exact ⟨rfl, rfl⟩

def report_Lines (a0 : Int) (a1 : WT) : Option ((List ByteArray)) := (if a0 = 0 then (some ([])) else ((report_width a1.2.2.1).bind fun x1 => ((report_Prefix a1).bind fun x2 => ((report_Text a0).bind fun x3 => ((sap? x2 a1.2.2.1).bind fun x4 => ((report_width x2).bind fun x5 => ((sRepeat (⟨#[32]⟩ : ByteArray) (w64 (x5 + (if (if x1 < a1.2.2.2 then x1 else a1.2.2.2) < 0 then 0 else (if x1 < a1.2.2.2 then x1 else a1.2.2.2))))).bind fun x6 => ((sap? x6 (⟨#[94]⟩ : ByteArray)).bind fun x7 => (some ([x3, x4, x7]))))))))))
theorem report_Lines_ok {a0 : Int} {a1 : WT} {r : (List ByteArray)} (h : report_Lines a0 a1 = some r) :
    Fn Try.prog 27 [.i .i64 a0, .ag [.s a1.1, .i .i64 a1.2.1, .s a1.2.2.1, .i .i64 a1.2.2.2]] (.d (.sl (Ss r))) := by
  unfold report_Lines at h
  refine Fn.of (rs := [.tmp 4]) (nt := 31) Try.func27 rfl rfl rfl (by simp) rfl ?_
  refine .seq ?_
  refine .region ?_
  refine vk (vbx) ?_
  refine asn ?_
  refine rn ?_
  refine .gh (Gh.keep [0, 3, 4] rfl) ?_
  refine .seq ?_
  refine .seq ?_
  refine .region ?_
  refine vk (vmvd) ?_
  refine vk (vbi) ?_
  refine rn ?_
  refine .gh (Gh.keep [0, 3, 4, 8] rfl) ?_
  by_cases hc : a0 = 0
  · replace h := ite_t hc h
    refine cnt (decide_eq_true hc) ?_
    refine .seq ?_
    refine .region ?_
    refine asn ?_
    refine rn ?_
    refine .gh (Gh.keep [0, 3, 4] rfl) ?_
    refine .gh (Gh.nlD (t := 4) rfl) ?_
    refine .ret ?_
    cases h
    exact ⟨rfl, rfl⟩
  replace h := ite_f hc h
  refine cnf (decide_eq_false hc) ?_
  refine .skip ?_
  show AW _ _ _ _ _ _
  refine .seq ?_
  refine .drawn 7 mixed (by kernel_rfl) ?_
  refine dv (vfa gF_W_3) ?_
  refine dv (vldp ga_int) ?_
  refine dv (vfa gF_W_2) ?_
  refine dv (vldp ga_string) ?_
  obtain ⟨x1, hx1, h⟩ := bnd h
  refine dv (vcl0 (report_width_ok hx1) Try.call71) ?_
  refine dv (vmn) ?_
  refine dv (vmx) ?_
  refine dz ?_
  refine asd ?_
  refine rn ?_
  refine .gh (Gh.keep [0, 3, 4, 5] rfl) ?_
  refine .seq ?_
  refine .region ?_
  refine vk (vlda gA_W gS_W) ?_
  obtain ⟨x2, hx2, h⟩ := bnd h
  refine vk (vcl0 (report_Prefix_ok hx2) Try.call30) ?_
  refine asd ?_
  refine rn ?_
  refine .gh (Gh.keep [0, 3, 4, 5, 6] rfl) ?_
  refine .seq ?_
  refine .drawn 13 mixed (by kernel_rfl) ?_
  refine dv (vmvd) ?_
  obtain ⟨x3, hx3, h⟩ := bnd h
  refine dv (vcl0 (report_Text_ok hx3) Try.call44) ?_
  refine dv (vmvd) ?_
  refine dv (vfa gF_W_2) ?_
  refine dv (vldp ga_string) ?_
  obtain ⟨x4, hx4, h⟩ := bnd h
  refine dv (vsa hx4) ?_
  refine dv (vmvd) ?_
  obtain ⟨x5, hx5, h⟩ := bnd h
  refine dv (vcl0 (report_width_ok hx5) Try.call71) ?_
  refine dv (vmvd) ?_
  refine dv (vbi) ?_
  obtain ⟨x6, hx6, h⟩ := bnd h
  refine dv (vcl0 (sRepeat_ok hx6) Try.call72) ?_
  obtain ⟨x7, hx7, h⟩ := bnd h
  refine dv (vsa hx7) ?_
  refine dv ((vbsl (Ss_flat [x3, x4, x7]) ge_Ss).deep) ?_
  refine dz ?_
  refine asd ?_
  refine rn ?_
  refine .gh (Gh.keep [4] rfl) ?_
  refine .ret ?_
  cases h
  exact ⟨rfl, rfl⟩

end Go.FL
/-
  GP: glyphlaw14: live, where.
-/
namespace Go.FL
open Go Go.Proofs

def law14_live : Option (Bool) := ((report_Lines 5 (ByteArray.empty, 0, (⟨#[49, 32, 50, 43, 49, 32, 50, 32, 51]⟩ : ByteArray), 3)).bind fun x1 => (Option.bind ((if ((List.length x1 : Nat) : Int) = 3 then ((rd? x1 0).bind fun x3 => (if x3 = (⟨#[76, 69, 78, 71, 84, 72, 32, 69, 82, 82, 79, 82]⟩ : ByteArray) then ((rd? x1 1).bind fun x4 => (if x4 = (⟨#[32, 32, 32, 32, 32, 32, 49, 32, 50, 43, 49, 32, 50, 32, 51]⟩ : ByteArray) then ((rd? x1 2).bind fun x5 => (some (decide (x5 = (⟨#[32, 32, 32, 32, 32, 32, 32, 32, 32, 94]⟩ : ByteArray))))) else (some false))) else (some false))) else (some false)) : Option (Bool)) fun (z2 : Bool) => (some (z2))))
theorem law14_live_ok {r : Bool} (h : law14_live = some r) :
    Fn Try.prog 25 [] (.d (.b r)) := by
  unfold law14_live at h
  refine Fn.of (rs := [.tmp 0]) (nt := 25) Try.func25 rfl rfl rfl (by simp) rfl ?_
  refine .seq ?_
  refine .region ?_
  refine asd ?_
  refine rn ?_
  refine .gh (Gh.keep [0] rfl) ?_
  refine .seq ?_
  refine .region ?_
  refine vk (vbd gP_W gI_W gZ_W) ?_
  obtain ⟨x1, hx1, h⟩ := bnd h
  refine vk (vcl0 (report_Lines_ok hx1) Try.call27) ?_
  refine asd ?_
  refine rn ?_
  refine .gh (Gh.keep [0, 1] rfl) ?_
  refine .seq ?_
  obtain ⟨z2, hz, h⟩ := bnd h
  refine AW.mr (σ := Unit) (fun _ => True) (fun _ => [(0, .d (.b z2))]) (fun _ => []) ?_ ?_
  · skip
    refine .region ?_
    refine vk (vmvd) ?_
    refine vk (vlnE (Ss_length _) (Ss_sz _) gu_Ss) ?_
    refine vk (vbi) ?_
    by_cases hc : ((List.length x1 : Nat) : Int) = 3
    · replace hz := ite_t hc hz
      have hb0 : (decide (((List.length x1 : Nat) : Int) = 3)) = true := (decide_eq_true hc)
      refine vk (VOK.lit (vmvd) hb0) ?_
      refine vk (vmvd) ?_
      obtain ⟨x3, hx3, hz⟩ := bnd hz
      obtain ⟨nx3, hnx3, hxx3⟩ := rd_some hx3
      refine vk (vix nx3 hnx3 (Ss_at hxx3) rfl gs_Ss) ?_
      refine vk (vldp ga_string) ?_
      refine vk (vsq (.inl rfl)) ?_
      refine vk (vpkd) ?_
      by_cases hc : x3 = (⟨#[76, 69, 78, 71, 84, 72, 32, 69, 82, 82, 79, 82]⟩ : ByteArray)
      · replace hz := ite_t hc hz
        have hb1 : (decide (x3 = (⟨#[76, 69, 78, 71, 84, 72, 32, 69, 82, 82, 79, 82]⟩ : ByteArray))) = true := (decide_eq_true hc)
        refine vk (VOK.lit (vmvd) hb1) ?_
        refine vk (vmvd) ?_
        obtain ⟨x4, hx4, hz⟩ := bnd hz
        obtain ⟨nx4, hnx4, hxx4⟩ := rd_some hx4
        refine vk (vix nx4 hnx4 (Ss_at hxx4) rfl gs_Ss) ?_
        refine vk (vldp ga_string) ?_
        refine vk (vsq (.inl rfl)) ?_
        refine vk (vpkd) ?_
        by_cases hc : x4 = (⟨#[32, 32, 32, 32, 32, 32, 49, 32, 50, 43, 49, 32, 50, 32, 51]⟩ : ByteArray)
        · replace hz := ite_t hc hz
          have hb2 : (decide (x4 = (⟨#[32, 32, 32, 32, 32, 32, 49, 32, 50, 43, 49, 32, 50, 32, 51]⟩ : ByteArray))) = true := (decide_eq_true hc)
          refine vk (VOK.lit (vmvd) hb2) ?_
          refine vk (vmvd) ?_
          obtain ⟨x5, hx5, hz⟩ := bnd hz
          obtain ⟨nx5, hnx5, hxx5⟩ := rd_some hx5
          refine vk (vix nx5 hnx5 (Ss_at hxx5) rfl gs_Ss) ?_
          refine vk (vldp ga_string) ?_
          refine vk (vsq (.inl rfl)) ?_
          refine vk (vpkd) ?_
          refine asd ?_
          refine RL.gh (Gh.keep [0] rfl) ?_
          refine .nil ?_
          cases hz
          exact jr () trivial
        replace hz := ite_f hc hz
        have hb2 : (decide (x4 = (⟨#[32, 32, 32, 32, 32, 32, 49, 32, 50, 43, 49, 32, 50, 32, 51]⟩ : ByteArray))) = false := (decide_eq_false hc)
        refine vk (VOK.lit (vmvd) hb2) ?_
        refine gf ?_
        refine gf ?_
        refine gf ?_
        refine gf ?_
        refine vk (vpkd) ?_
        refine asd ?_
        refine RL.gh (Gh.keep [0] rfl) ?_
        refine .nil ?_
        cases hz
        exact jr () trivial
      replace hz := ite_f hc hz
      have hb1 : (decide (x3 = (⟨#[76, 69, 78, 71, 84, 72, 32, 69, 82, 82, 79, 82]⟩ : ByteArray))) = false := (decide_eq_false hc)
      refine vk (VOK.lit (vmvd) hb1) ?_
      refine gf ?_
      refine gf ?_
      refine gf ?_
      refine gf ?_
      refine vk (vpkd) ?_
      refine vk (vmvd) ?_
      refine gf ?_
      refine gf ?_
      refine gf ?_
      refine gf ?_
      refine vk (vpkd) ?_
      refine asd ?_
      refine RL.gh (Gh.keep [0] rfl) ?_
      refine .nil ?_
      cases hz
      exact jr () trivial
    replace hz := ite_f hc hz
    have hb0 : (decide (((List.length x1 : Nat) : Int) = 3)) = false := (decide_eq_false hc)
    refine vk (VOK.lit (vmvd) hb0) ?_
    refine gf ?_
    refine gf ?_
    refine gf ?_
    refine gf ?_
    refine vk (vpkd) ?_
    refine vk (vmvd) ?_
    refine gf ?_
    refine gf ?_
    refine gf ?_
    refine gf ?_
    refine vk (vpkd) ?_
    refine vk (vmvd) ?_
    refine gf ?_
    refine gf ?_
    refine gf ?_
    refine gf ?_
    refine vk (vpkd) ?_
    refine asd ?_
    refine RL.gh (Gh.keep [0] rfl) ?_
    refine .nil ?_
    cases hz
    exact jr () trivial
  rintro _ _
  refine .ret ?_
  cases h
  exact ⟨rfl, rfl⟩

def law14_where (a0 : WT) : Option (WT) := (some (a0))
theorem law14_where_ok {a0 : WT} {r : WT} (h : law14_where a0 = some r) :
    Fn Try.prog 29 [.ag [.s a0.1, .i .i64 a0.2.1, .s a0.2.2.1, .i .i64 a0.2.2.2]] (.d (.ag [.s r.1, .i .i64 r.2.1, .s r.2.2.1, .i .i64 r.2.2.2])) := by
  unfold law14_where at h
  refine Fn.ofC (rs := [.cell 2 55]) (nt := 12) Try.func29 rfl rfl rfl (by simp) rfl ?_
  refine .seq ?_
  refine .region ?_
  refine vk (vbx) ?_
  refine vk (van (zero_of gI_V) gZ_V) ?_
  refine rn ?_
  refine .gh (Gh.keep [1, 2] rfl) ?_
  refine .seq ?_
  refine .region ?_
  refine vk (vfa gF_W_0) ?_
  refine vk (vldp ga_string) ?_
  refine vk (vfa gF_W_1) ?_
  refine vk (vldp ga_int) ?_
  refine vk (vfa gF_W_2) ?_
  refine vk (vldp ga_string) ?_
  refine vk (vfa gF_W_3) ?_
  refine vk (vldp ga_int) ?_
  refine vk (vbd gP_V gI_V gZ_V) ?_
  refine stn ?_ gS_V (by decide)
  refine rn ?_
  refine .gh (Gh.keep [2] rfl) ?_
  refine .ret ?_
  cases h
  exact ⟨_, ⟨.inr rfl, gA_V, gS_V, (by decide : (0 : Nat) < 4)⟩, rfl⟩
end Go.FL
/-
  GP: the report, the reference.
-/
namespace Go.FL
open Go Go.Proofs

def ref08_Width_l0 (a0 : ByteArray) : Nat → Int → Nat → Option (Int)
  | 0, _, _ => none
  | k + 1, s1, s2 => (if s2 < ByteArray.size a0 then (ref08_Width_l0 a0 k (w64 (s1 + 1)) (rnext a0 s2)) else (some (s1)))
def ref08_Width (a0 : ByteArray) : Option (Int) := (ref08_Width_l0 a0 FUEL 0 0)
theorem ref08_Width_ok {a0 : ByteArray} {r : Int} (h : ref08_Width a0 = some r) :
    Fn Try.prog 32 [.s a0] (.d (.i .i64 r)) := by
  unfold ref08_Width at h
  refine Fn.of (rs := [.tmp 2]) (nt := 11) Try.func32 rfl rfl rfl (by simp) rfl ?_
  refine .seq ?_
  refine .region ?_
  refine asd ?_
  refine rn ?_
  refine .gh (Gh.keep [0, 2] rfl) ?_
  refine .seq ?_
  refine .region ?_
  refine asd ?_
  refine rn ?_
  refine .gh (Gh.keep [0, 2, 3] rfl) ?_
  refine .seq ?_
  refine .seq ?_
  refine .region ?_
  refine vk (vmvd) ?_
  refine vk (vrng st) ?_
  refine rn ?_
  refine .gh (Gh.keep [2, 3, 5] rfl) ?_
  refine .block ?_
  refine .loop (.gh (Gh.keep [2, 3, 5] rfl) ?_)
  refine AL.ind (σ := Nat × Int × Nat) (m := fun p => p.1) (e := fun p => [(2, .d (.i .i64 0)), (3, .d (.i .i64 p.2.1)), (5, .it a0 p.2.2)]) (h := fun p => []) (I := fun p => ref08_Width_l0 a0 p.1 p.2.1 p.2.2 = some r) ?_ (FUEL, 0, 0) h
  rintro ⟨k, s1, s2⟩ h ih
  dsimp only at h ih ⊢
  rcases k with _ | k
  · rw [ref08_Width_l0] at h; cases h
  rw [ref08_Width_l0] at h
  refine .seq ?_
  refine .region ?_
  by_cases hc : s2 < ByteArray.size a0
  · replace h := ite_t hc h
    refine nxt ?_ hc
    refine vk (vex) ?_
    refine rn ?_
    refine .gh (Gh.keep [2, 3, 5, 7] rfl) ?_
    refine .seq ?_
    refine cndt ?_
    refine .skip ?_
    show AW _ _ _ _ _ _
    refine .block ?_
    refine .region ?_
    refine vk (vmvd) ?_
    refine vk (vbi) ?_
    refine asd ?_
    refine .nil ?_
    refine AL.gh (Gh.keep [2, 3, 5] rfl) ?_
    exact ih (k, (w64 (s1 + 1)), (rnext a0 s2)) h (Nat.lt_succ_self _)
  replace h := ite_f hc h
  refine nxe ?_ hc
  refine vk (vex) ?_
  refine rn ?_
  refine .gh (Gh.keep [2, 3, 5, 7] rfl) ?_
  refine .seq ?_
  refine cndf ?_
  refine .exit ?_
  show AW _ _ _ _ _ _
  refine .seq ?_
  refine .region ?_
  refine vk (vmvd) ?_
  refine asd ?_
  refine rn ?_
  refine .gh (Gh.keep [2] rfl) ?_
  refine .ret ?_
  cases h
  exact ⟨rfl, rfl⟩

def ref14_number (a0 : Int) : Option (ByteArray) := ((ref02_OfInt a0).bind fun x1 => ((ref02_Print x1).bind fun x2 => (some (x2))))
theorem ref14_number_ok {a0 : Int} {r : ByteArray} (h : ref14_number a0 = some r) :
    Fn Try.prog 74 [.i .i64 a0] (.d (.s r)) := by
  unfold ref14_number at h
  refine Fn.of (rs := [.tmp 2]) (nt := 6) Try.func74 rfl rfl rfl (by simp) rfl ?_
  refine .seq ?_
  refine .region ?_
  refine asd ?_
  refine rn ?_
  refine .gh (Gh.keep [0, 2] rfl) ?_
  refine .seq ?_
  refine .region ?_
  refine vk (vmvd) ?_
  obtain ⟨x1, hx1, h⟩ := bnd h
  refine vk (vcl0 (ref02_OfInt_ok hx1) Try.call79) ?_
  obtain ⟨x2, hx2, h⟩ := bnd h
  refine vk (vcl0 (ref02_Print_ok hx2) Try.call111) ?_
  refine asd ?_
  refine rn ?_
  refine .gh (Gh.keep [2] rfl) ?_
  refine .ret ?_
  cases h
  exact ⟨rfl, rfl⟩

def ref14_words : Option ((List ByteArray)) := (some ([(⟨#[]⟩ : ByteArray), (⟨#[83, 89, 78, 84, 65, 88, 32, 69, 82, 82, 79, 82]⟩ : ByteArray), (⟨#[86, 65, 76, 85, 69, 32, 69, 82, 82, 79, 82]⟩ : ByteArray), (⟨#[68, 79, 77, 65, 73, 78, 32, 69, 82, 82, 79, 82]⟩ : ByteArray), (⟨#[82, 65, 78, 75, 32, 69, 82, 82, 79, 82]⟩ : ByteArray), (⟨#[76, 69, 78, 71, 84, 72, 32, 69, 82, 82, 79, 82]⟩ : ByteArray), (⟨#[73, 78, 68, 69, 88, 32, 69, 82, 82, 79, 82]⟩ : ByteArray), (⟨#[65, 88, 73, 83, 32, 69, 82, 82, 79, 82]⟩ : ByteArray), (⟨#[76, 73, 77, 73, 84, 32, 69, 82, 82, 79, 82]⟩ : ByteArray), (⟨#[73, 78, 84, 69, 82, 82, 85, 80, 84]⟩ : ByteArray)]))
theorem ref14_words_ok {r : (List ByteArray)} (h : ref14_words = some r) :
    Fn Try.prog 85 [] (.d (.sl (Ss r))) := by
  unfold ref14_words at h
  refine Fn.of (rs := [.tmp 0]) (nt := 2) Try.func85 rfl rfl rfl (by simp) rfl ?_
  refine .seq ?_
  refine .region ?_
  refine asn ?_
  refine rn ?_
  refine .gh (Gh.keep [0] rfl) ?_
  refine .seq ?_
  refine .region ?_
  refine vk ((vbsl (Ss_flat [(⟨#[]⟩ : ByteArray), (⟨#[83, 89, 78, 84, 65, 88, 32, 69, 82, 82, 79, 82]⟩ : ByteArray), (⟨#[86, 65, 76, 85, 69, 32, 69, 82, 82, 79, 82]⟩ : ByteArray), (⟨#[68, 79, 77, 65, 73, 78, 32, 69, 82, 82, 79, 82]⟩ : ByteArray), (⟨#[82, 65, 78, 75, 32, 69, 82, 82, 79, 82]⟩ : ByteArray), (⟨#[76, 69, 78, 71, 84, 72, 32, 69, 82, 82, 79, 82]⟩ : ByteArray), (⟨#[73, 78, 68, 69, 88, 32, 69, 82, 82, 79, 82]⟩ : ByteArray), (⟨#[65, 88, 73, 83, 32, 69, 82, 82, 79, 82]⟩ : ByteArray), (⟨#[76, 73, 77, 73, 84, 32, 69, 82, 82, 79, 82]⟩ : ByteArray), (⟨#[73, 78, 84, 69, 82, 82, 85, 80, 84]⟩ : ByteArray)]) ge_Ss).deep) ?_
  refine asd ?_
  refine rn ?_
  refine .gh (Gh.keep [0] rfl) ?_
  refine .ret ?_
  cases h
  exact ⟨rfl, rfl⟩

def ref14_Text (a0 : Int) : Option (ByteArray) := (Option.bind ((if 0 ≤ a0 then (ref14_words.bind fun x2 => (some (decide (a0 < ((List.length x2 : Nat) : Int))))) else (some false)) : Option (Bool)) fun (z1 : Bool) => (if z1 = true then (ref14_words.bind fun x3 => ((rd? x3 a0).bind fun x4 => (some (x4)))) else (if a0 = 28 then (some ((⟨#[68, 69, 70, 78, 32, 69, 82, 82, 79, 82]⟩ : ByteArray))) else ((ref14_number a0).bind fun x5 => ((sap? (⟨#[69, 82, 82, 79, 82, 32]⟩ : ByteArray) x5).bind fun x6 => (some (x6)))))))
theorem ref14_Text_ok {a0 : Int} {r : ByteArray} (h : ref14_Text a0 = some r) :
    Fn Try.prog 45 [.i .i64 a0] (.d (.s r)) := by
  unfold ref14_Text at h
  refine Fn.of (rs := [.tmp 2]) (nt := 20) Try.func45 rfl rfl rfl (by simp) rfl ?_
  refine .seq ?_
  refine .region ?_
  refine asd ?_
  refine rn ?_
  refine .gh (Gh.keep [0, 2] rfl) ?_
  refine .seq ?_
  refine .seq ?_
  obtain ⟨z1, hz, h⟩ := bnd h
  refine AW.mr (σ := Unit) (fun _ => True) (fun _ => [(0, .d (.i .i64 a0)), (2, .d (.s (⟨#[]⟩ : ByteArray))), (10, .d (.b z1))]) (fun _ => []) ?_ ?_
  · skip
    refine .region ?_
    refine vk (vmvd) ?_
    refine vk (vbi) ?_
    by_cases hc : 0 ≤ a0
    · replace hz := ite_t hc hz
      have hb0 : (decide (0 ≤ a0)) = true := (decide_eq_true hc)
      refine vk (VOK.lit (vmvd) hb0) ?_
      refine vk (vmvd) ?_
      obtain ⟨x2, hx2, hz⟩ := bnd hz
      refine vk (vcl0 (ref14_words_ok hx2) Try.call85) ?_
      refine vk (vlnE (Ss_length _) (Ss_sz _) gu_Ss) ?_
      refine vk (vbi) ?_
      refine vk (vpkd) ?_
      refine RL.gh (Gh.keep [0, 2, 10] rfl) ?_
      refine .nil ?_
      cases hz
      exact jr () trivial
    replace hz := ite_f hc hz
    have hb0 : (decide (0 ≤ a0)) = false := (decide_eq_false hc)
    refine vk (VOK.lit (vmvd) hb0) ?_
    refine gf ?_
    refine gf ?_
    refine gf ?_
    refine gf ?_
    refine vk (vpkd) ?_
    refine RL.gh (Gh.keep [0, 2, 10] rfl) ?_
    refine .nil ?_
    cases hz
    exact jr () trivial
  rintro _ _
  by_cases hc : z1 = true
  · replace h := ite_t hc h
    refine cnt hc ?_
    refine .seq ?_
    refine .region ?_
    obtain ⟨x3, hx3, h⟩ := bnd h
    refine vk (vcl0 (ref14_words_ok hx3) Try.call85) ?_
    refine vk (vmvd) ?_
    obtain ⟨x4, hx4, h⟩ := bnd h
    obtain ⟨nx4, hnx4, hxx4⟩ := rd_some hx4
    refine vk (vix nx4 hnx4 (Ss_at hxx4) rfl gs_Ss) ?_
    refine vk (vldp ga_string) ?_
    refine asd ?_
    refine rn ?_
    refine .gh (Gh.keep [0, 2] rfl) ?_
    refine .ret ?_
    cases h
    exact ⟨rfl, rfl⟩
  replace h := ite_f hc h
  refine cnf (bf hc) ?_
  refine .skip ?_
  show AW _ _ _ _ _ _
  refine .seq ?_
  refine .seq ?_
  refine .region ?_
  refine vk (vmvd) ?_
  refine vk (vbi) ?_
  refine rn ?_
  refine .gh (Gh.keep [0, 2, 16] rfl) ?_
  by_cases hc : a0 = 28
  · replace h := ite_t hc h
    refine cnt (decide_eq_true hc) ?_
    refine .seq ?_
    refine .region ?_
    refine asd ?_
    refine rn ?_
    refine .gh (Gh.keep [0, 2] rfl) ?_
    refine .ret ?_
    cases h
    exact ⟨rfl, rfl⟩
  replace h := ite_f hc h
  refine cnf (decide_eq_false hc) ?_
  refine .skip ?_
  show AW _ _ _ _ _ _
  refine .seq ?_
  refine .region ?_
  refine vk (vmvd) ?_
  obtain ⟨x5, hx5, h⟩ := bnd h
  refine vk (vcl0 (ref14_number_ok hx5) Try.call74) ?_
  obtain ⟨x6, hx6, h⟩ := bnd h
  refine vk (vsa hx6) ?_
  refine asd ?_
  refine rn ?_
  refine .gh (Gh.keep [2] rfl) ?_
  refine .ret ?_
  cases h
  exact ⟨rfl, rfl⟩

def ref14_Prefix (a0 : WT) : Option (ByteArray) := (if a0.1 = (⟨#[]⟩ : ByteArray) then (some ((⟨#[32, 32, 32, 32, 32, 32]⟩ : ByteArray))) else ((sap? a0.1 (⟨#[91]⟩ : ByteArray)).bind fun x1 => ((ref14_number a0.2.1).bind fun x2 => ((sap? x1 x2).bind fun x3 => ((sap? x3 (⟨#[93, 32]⟩ : ByteArray)).bind fun x4 => (some (x4)))))))
theorem ref14_Prefix_ok {a0 : WT} {r : ByteArray} (h : ref14_Prefix a0 = some r) :
    Fn Try.prog 31 [.ag [.s a0.1, .i .i64 a0.2.1, .s a0.2.2.1, .i .i64 a0.2.2.2]] (.d (.s r)) := by
  unfold ref14_Prefix at h
  refine Fn.of (rs := [.tmp 2]) (nt := 14) Try.func31 rfl rfl rfl (by simp) rfl ?_
  refine .seq ?_
  refine .region ?_
  refine vk (vbx) ?_
  refine asd ?_
  refine rn ?_
  refine .gh (Gh.keep [1, 2] rfl) ?_
  refine .seq ?_
  refine .seq ?_
  refine .region ?_
  refine vk (vfa gF_V_0) ?_
  refine vk (vldp ga_string) ?_
  refine vk (vsq (.inl rfl)) ?_
  refine rn ?_
  refine .gh (Gh.keep [1, 2, 5] rfl) ?_
  by_cases hc : a0.1 = (⟨#[]⟩ : ByteArray)
  · replace h := ite_t hc h
    refine cnt (decide_eq_true hc) ?_
    refine .seq ?_
    refine .region ?_
    refine asd ?_
    refine rn ?_
    refine .gh (Gh.keep [1, 2] rfl) ?_
    refine .ret ?_
    cases h
    exact ⟨rfl, rfl⟩
  replace h := ite_f hc h
  refine cnf (decide_eq_false hc) ?_
  refine .skip ?_
  show AW _ _ _ _ _ _
  refine .seq ?_
  refine .drawn 8 mixed (by kernel_rfl) ?_
  refine dv (vfa gF_V_0) ?_
  refine dv (vldp ga_string) ?_
  obtain ⟨x1, hx1, h⟩ := bnd h
  refine dv (vsa hx1) ?_
  refine dv (vfa gF_V_1) ?_
  refine dv (vldp ga_int) ?_
  obtain ⟨x2, hx2, h⟩ := bnd h
  refine dv (vcl0 (ref14_number_ok hx2) Try.call74) ?_
  obtain ⟨x3, hx3, h⟩ := bnd h
  refine dv (vsa hx3) ?_
  obtain ⟨x4, hx4, h⟩ := bnd h
  refine dv (vsa hx4) ?_
  refine dz ?_
  refine asd ?_
  refine rn ?_
  refine .gh (Gh.keep [2] rfl) ?_
  refine .ret ?_
  cases h
  exact ⟨rfl, rfl⟩

def ref14_Lines_l0 (a0 : Int) (a1 : WT) : Nat → ByteArray → Int → Option ((List ByteArray))
  | 0, _, _ => none
  | k + 1, s3, s4 => ((ref14_Prefix a1).bind fun x5 => ((ref08_Width x5).bind fun x6 => (if s4 < (w64 (x6 + 0)) then ((sap? s3 (⟨#[32]⟩ : ByteArray)).bind fun x7 => (ref14_Lines_l0 a0 a1 k x7 (w64 (s4 + 1)))) else ((ref14_Text a0).bind fun x8 => ((ref14_Prefix a1).bind fun x9 => ((sap? x9 a1.2.2.1).bind fun x10 => ((sap? s3 (⟨#[94]⟩ : ByteArray)).bind fun x11 => (some ([x8, x10, x11])))))))))
def ref14_Lines_l1 (a0 : Int) (a1 : WT) (x2 : Int) : Nat → ByteArray → Int → Option ((List ByteArray))
  | 0, _, _ => none
  | k + 1, s12, s13 => ((ref14_Prefix a1).bind fun x14 => ((ref08_Width x14).bind fun x15 => (if s13 < (w64 (x15 + x2)) then ((sap? s12 (⟨#[32]⟩ : ByteArray)).bind fun x16 => (ref14_Lines_l1 a0 a1 x2 k x16 (w64 (s13 + 1)))) else ((ref14_Text a0).bind fun x17 => ((ref14_Prefix a1).bind fun x18 => ((sap? x18 a1.2.2.1).bind fun x19 => ((sap? s12 (⟨#[94]⟩ : ByteArray)).bind fun x20 => (some ([x17, x19, x20])))))))))
def ref14_Lines_l2 (a0 : Int) (a1 : WT) : Nat → ByteArray → Int → Option ((List ByteArray))
  | 0, _, _ => none
  | k + 1, s21, s22 => ((ref14_Prefix a1).bind fun x23 => ((ref08_Width x23).bind fun x24 => (if s22 < (w64 (x24 + 0)) then ((sap? s21 (⟨#[32]⟩ : ByteArray)).bind fun x25 => (ref14_Lines_l2 a0 a1 k x25 (w64 (s22 + 1)))) else ((ref14_Text a0).bind fun x26 => ((ref14_Prefix a1).bind fun x27 => ((sap? x27 a1.2.2.1).bind fun x28 => ((sap? s21 (⟨#[94]⟩ : ByteArray)).bind fun x29 => (some ([x26, x28, x29])))))))))
def ref14_Lines_l3 (a0 : Int) (a1 : WT) : Nat → ByteArray → Int → Option ((List ByteArray))
  | 0, _, _ => none
  | k + 1, s30, s31 => ((ref14_Prefix a1).bind fun x32 => ((ref08_Width x32).bind fun x33 => (if s31 < (w64 (x33 + a1.2.2.2)) then ((sap? s30 (⟨#[32]⟩ : ByteArray)).bind fun x34 => (ref14_Lines_l3 a0 a1 k x34 (w64 (s31 + 1)))) else ((ref14_Text a0).bind fun x35 => ((ref14_Prefix a1).bind fun x36 => ((sap? x36 a1.2.2.1).bind fun x37 => ((sap? s30 (⟨#[94]⟩ : ByteArray)).bind fun x38 => (some ([x35, x37, x38])))))))))
def ref14_Lines (a0 : Int) (a1 : WT) : Option ((List ByteArray)) := (if a0 = 0 then (some ([])) else ((ref08_Width a1.2.2.1).bind fun x1 => (if x1 < a1.2.2.2 then ((ref08_Width a1.2.2.1).bind fun x2 => (if x2 < 0 then (ref14_Lines_l0 a0 a1 FUEL (⟨#[]⟩ : ByteArray) 0) else (ref14_Lines_l1 a0 a1 x2 FUEL (⟨#[]⟩ : ByteArray) 0))) else (if a1.2.2.2 < 0 then (ref14_Lines_l2 a0 a1 FUEL (⟨#[]⟩ : ByteArray) 0) else (ref14_Lines_l3 a0 a1 FUEL (⟨#[]⟩ : ByteArray) 0)))))
set_option maxHeartbeats 4000000 in
theorem ref14_Lines_ok {a0 : Int} {a1 : WT} {r : (List ByteArray)} (h : ref14_Lines a0 a1 = some r) :
    Fn Try.prog 28 [.i .i64 a0, .ag [.s a1.1, .i .i64 a1.2.1, .s a1.2.2.1, .i .i64 a1.2.2.2]] (.d (.sl (Ss r))) := by
  unfold ref14_Lines at h
  refine Fn.of (rs := [.tmp 4]) (nt := 43) Try.func28 rfl rfl rfl (by simp) rfl ?_
  refine .seq ?_
  refine .region ?_
  refine vk (vbx) ?_
  refine asn ?_
  refine rn ?_
  refine .gh (Gh.keep [0, 3, 4] rfl) ?_
  refine .seq ?_
  refine .seq ?_
  refine .region ?_
  refine vk (vmvd) ?_
  refine vk (vbi) ?_
  refine rn ?_
  refine .gh (Gh.keep [0, 3, 4, 9] rfl) ?_
  by_cases hc : a0 = 0
  · replace h := ite_t hc h
    refine cnt (decide_eq_true hc) ?_
    refine .seq ?_
    refine .region ?_
    refine asn ?_
    refine rn ?_
    refine .gh (Gh.keep [0, 3, 4] rfl) ?_
    refine .gh (Gh.nlD (t := 4) rfl) ?_
    refine .ret ?_
    cases h
    exact ⟨rfl, rfl⟩
  replace h := ite_f hc h
  refine cnf (decide_eq_false hc) ?_
  refine .skip ?_
  show AW _ _ _ _ _ _
  refine .seq ?_
  refine .region ?_
  refine vk (vfa gF_V_3) ?_
  refine vk (vldp ga_int) ?_
  refine asd ?_
  refine rn ?_
  refine .gh (Gh.keep [0, 3, 4, 5] rfl) ?_
  refine .seq ?_
  refine .seq ?_
  refine .region ?_
  refine vk (vmvd) ?_
  refine vk (vfa gF_V_2) ?_
  refine vk (vldp ga_string) ?_
  obtain ⟨x1, hx1, h⟩ := bnd h
  refine vk (vcl0 (ref08_Width_ok hx1) Try.call32) ?_
  refine vk (vbi) ?_
  refine rn ?_
  refine .gh (Gh.keep [0, 3, 4, 5, 16] rfl) ?_
  by_cases hc : x1 < a1.2.2.2
  · replace h := ite_t hc h
    refine cnt (decide_eq_true hc) ?_
    refine .region ?_
    refine vk (vfa gF_V_2) ?_
    refine vk (vldp ga_string) ?_
    obtain ⟨x2, hx2, h⟩ := bnd h
    refine vk (vcl0 (ref08_Width_ok hx2) Try.call32) ?_
    refine asd ?_
    refine rn ?_
    refine .gh (Gh.keep [0, 3, 4, 5] rfl) ?_
    refine .seq ?_
    refine .seq ?_
    refine .region ?_
    refine vk (vmvd) ?_
    refine vk (vbi) ?_
    refine rn ?_
    refine .gh (Gh.keep [0, 3, 4, 5, 21] rfl) ?_
    by_cases hc : x2 < 0
    · replace h := ite_t hc h
      refine cnt (decide_eq_true hc) ?_
      refine .region ?_
      refine asd ?_
      refine rn ?_
      refine .gh (Gh.keep [0, 3, 4, 5] rfl) ?_
      refine .seq ?_
      refine .region ?_
      refine asd ?_
      refine rn ?_
      refine .gh (Gh.keep [0, 3, 4, 5, 6] rfl) ?_
      refine .seq ?_
      refine .seq ?_
      refine .region ?_
      refine asd ?_
      refine rn ?_
      refine .gh (Gh.keep [0, 3, 4, 5, 6, 7] rfl) ?_
      refine .block ?_
      refine .loop (.gh (Gh.keep [0, 3, 4, 5, 6, 7] rfl) ?_)
      refine AL.ind (σ := Nat × ByteArray × Int) (m := fun p => p.1) (e := fun p => [(0, .d (.i .i64 a0)), (3, .d (.ptr [.s a1.1, .i .i64 a1.2.1, .s a1.2.2.1, .i .i64 a1.2.2.2])), (4, .nl), (5, .d (.i .i64 0)), (6, .d (.s p.2.1)), (7, .d (.i .i64 p.2.2))]) (h := fun p => []) (I := fun p => ref14_Lines_l0 a0 a1 p.1 p.2.1 p.2.2 = some r) ?_ (FUEL, (⟨#[]⟩ : ByteArray), 0) h
      rintro ⟨k, s3, s4⟩ h ih
      dsimp only at h ih ⊢
      rcases k with _ | k
      · rw [ref14_Lines_l0] at h; cases h
      rw [ref14_Lines_l0] at h
      refine .seq ?_
      refine .seq ?_
      refine .region ?_
      refine vk (vmvd) ?_
      refine vk (vlda gA_V gS_V) ?_
      obtain ⟨x5, hx5, h⟩ := bnd h
      refine vk (vcl0 (ref14_Prefix_ok hx5) Try.call31) ?_
      obtain ⟨x6, hx6, h⟩ := bnd h
      refine vk (vcl0 (ref08_Width_ok hx6) Try.call32) ?_
      refine vk (vmvd) ?_
      refine vk (vbi) ?_
      refine vk (vbi) ?_
      refine rn ?_
      refine .gh (Gh.keep [0, 3, 4, 5, 6, 7, 28] rfl) ?_
      by_cases hc : s4 < (w64 (x6 + 0))
      · replace h := ite_t hc h
        refine cnt (decide_eq_true hc) ?_
        refine .skip ?_
        show AW _ _ _ _ _ _
        refine .seq ?_
        refine .block ?_
        refine .region ?_
        refine vk (vmvd) ?_
        obtain ⟨x7, hx7, h⟩ := bnd h
        refine vk (vsa hx7) ?_
        refine asd ?_
        refine .nil ?_
        show AW _ _ _ _ _ _
        refine .gh (Gh.keep [0, 3, 4, 5, 6, 7] rfl) ?_
        refine .region ?_
        refine vk (vmvd) ?_
        refine vk (vbi) ?_
        refine asd ?_
        refine .nil ?_
        refine AL.gh (Gh.keep [0, 3, 4, 5, 6, 7] rfl) ?_
        exact ih (k, x7, (w64 (s4 + 1))) h (Nat.lt_succ_self _)
      replace h := ite_f hc h
      refine cnf (decide_eq_false hc) ?_
      refine .exit ?_
      show AW _ _ _ _ _ _
      refine .seq ?_
      refine .drawn 10 mixed (by kernel_rfl) ?_
      refine dv (vmvd) ?_
      obtain ⟨x8, hx8, h⟩ := bnd h
      refine dv (vcl0 (ref14_Text_ok hx8) Try.call45) ?_
      refine dv (vlda gA_V gS_V) ?_
      obtain ⟨x9, hx9, h⟩ := bnd h
      refine dv (vcl0 (ref14_Prefix_ok hx9) Try.call31) ?_
      refine dv (vfa gF_V_2) ?_
      refine dv (vldp ga_string) ?_
      obtain ⟨x10, hx10, h⟩ := bnd h
      refine dv (vsa hx10) ?_
      refine dv (vmvd) ?_
      obtain ⟨x11, hx11, h⟩ := bnd h
      refine dv (vsa hx11) ?_
      refine dv ((vbsl (Ss_flat [x8, x10, x11]) ge_Ss).deep) ?_
      refine dz ?_
      refine asd ?_
      refine rn ?_
      refine .gh (Gh.keep [4] rfl) ?_
      refine .ret ?_
      cases h
      exact ⟨rfl, rfl⟩
    replace h := ite_f hc h
    refine cnf (decide_eq_false hc) ?_
    refine .skip ?_
    show AW _ _ _ _ _ _
    refine .seq ?_
    refine .region ?_
    refine asd ?_
    refine rn ?_
    refine .gh (Gh.keep [0, 3, 4, 5, 6] rfl) ?_
    refine .seq ?_
    refine .seq ?_
    refine .region ?_
    refine asd ?_
    refine rn ?_
    refine .gh (Gh.keep [0, 3, 4, 5, 6, 7] rfl) ?_
    refine .block ?_
    refine .loop (.gh (Gh.keep [0, 3, 4, 5, 6, 7] rfl) ?_)
    refine AL.ind (σ := Nat × ByteArray × Int) (m := fun p => p.1) (e := fun p => [(0, .d (.i .i64 a0)), (3, .d (.ptr [.s a1.1, .i .i64 a1.2.1, .s a1.2.2.1, .i .i64 a1.2.2.2])), (4, .nl), (5, .d (.i .i64 x2)), (6, .d (.s p.2.1)), (7, .d (.i .i64 p.2.2))]) (h := fun p => []) (I := fun p => ref14_Lines_l1 a0 a1 x2 p.1 p.2.1 p.2.2 = some r) ?_ (FUEL, (⟨#[]⟩ : ByteArray), 0) h
    rintro ⟨k, s12, s13⟩ h ih
    dsimp only at h ih ⊢
    rcases k with _ | k
    · rw [ref14_Lines_l1] at h; cases h
    rw [ref14_Lines_l1] at h
    refine .seq ?_
    refine .seq ?_
    refine .region ?_
    refine vk (vmvd) ?_
    refine vk (vlda gA_V gS_V) ?_
    obtain ⟨x14, hx14, h⟩ := bnd h
    refine vk (vcl0 (ref14_Prefix_ok hx14) Try.call31) ?_
    obtain ⟨x15, hx15, h⟩ := bnd h
    refine vk (vcl0 (ref08_Width_ok hx15) Try.call32) ?_
    refine vk (vmvd) ?_
    refine vk (vbi) ?_
    refine vk (vbi) ?_
    refine rn ?_
    refine .gh (Gh.keep [0, 3, 4, 5, 6, 7, 28] rfl) ?_
    by_cases hc : s13 < (w64 (x15 + x2))
    · replace h := ite_t hc h
      refine cnt (decide_eq_true hc) ?_
      refine .skip ?_
      show AW _ _ _ _ _ _
      refine .seq ?_
      refine .block ?_
      refine .region ?_
      refine vk (vmvd) ?_
      obtain ⟨x16, hx16, h⟩ := bnd h
      refine vk (vsa hx16) ?_
      refine asd ?_
      refine .nil ?_
      show AW _ _ _ _ _ _
      refine .gh (Gh.keep [0, 3, 4, 5, 6, 7] rfl) ?_
      refine .region ?_
      refine vk (vmvd) ?_
      refine vk (vbi) ?_
      refine asd ?_
      refine .nil ?_
      refine AL.gh (Gh.keep [0, 3, 4, 5, 6, 7] rfl) ?_
      exact ih (k, x16, (w64 (s13 + 1))) h (Nat.lt_succ_self _)
    replace h := ite_f hc h
    refine cnf (decide_eq_false hc) ?_
    refine .exit ?_
    show AW _ _ _ _ _ _
    refine .seq ?_
    refine .drawn 10 mixed (by kernel_rfl) ?_
    refine dv (vmvd) ?_
    obtain ⟨x17, hx17, h⟩ := bnd h
    refine dv (vcl0 (ref14_Text_ok hx17) Try.call45) ?_
    refine dv (vlda gA_V gS_V) ?_
    obtain ⟨x18, hx18, h⟩ := bnd h
    refine dv (vcl0 (ref14_Prefix_ok hx18) Try.call31) ?_
    refine dv (vfa gF_V_2) ?_
    refine dv (vldp ga_string) ?_
    obtain ⟨x19, hx19, h⟩ := bnd h
    refine dv (vsa hx19) ?_
    refine dv (vmvd) ?_
    obtain ⟨x20, hx20, h⟩ := bnd h
    refine dv (vsa hx20) ?_
    refine dv ((vbsl (Ss_flat [x17, x19, x20]) ge_Ss).deep) ?_
    refine dz ?_
    refine asd ?_
    refine rn ?_
    refine .gh (Gh.keep [4] rfl) ?_
    refine .ret ?_
    cases h
    exact ⟨rfl, rfl⟩
  replace h := ite_f hc h
  refine cnf (decide_eq_false hc) ?_
  refine .skip ?_
  show AW _ _ _ _ _ _
  refine .seq ?_
  refine .seq ?_
  refine .region ?_
  refine vk (vmvd) ?_
  refine vk (vbi) ?_
  refine rn ?_
  refine .gh (Gh.keep [0, 3, 4, 5, 21] rfl) ?_
  by_cases hc : a1.2.2.2 < 0
  · replace h := ite_t hc h
    refine cnt (decide_eq_true hc) ?_
    refine .region ?_
    refine asd ?_
    refine rn ?_
    refine .gh (Gh.keep [0, 3, 4, 5] rfl) ?_
    refine .seq ?_
    refine .region ?_
    refine asd ?_
    refine rn ?_
    refine .gh (Gh.keep [0, 3, 4, 5, 6] rfl) ?_
    refine .seq ?_
    refine .seq ?_
    refine .region ?_
    refine asd ?_
    refine rn ?_
    refine .gh (Gh.keep [0, 3, 4, 5, 6, 7] rfl) ?_
    refine .block ?_
    refine .loop (.gh (Gh.keep [0, 3, 4, 5, 6, 7] rfl) ?_)
    refine AL.ind (σ := Nat × ByteArray × Int) (m := fun p => p.1) (e := fun p => [(0, .d (.i .i64 a0)), (3, .d (.ptr [.s a1.1, .i .i64 a1.2.1, .s a1.2.2.1, .i .i64 a1.2.2.2])), (4, .nl), (5, .d (.i .i64 0)), (6, .d (.s p.2.1)), (7, .d (.i .i64 p.2.2))]) (h := fun p => []) (I := fun p => ref14_Lines_l2 a0 a1 p.1 p.2.1 p.2.2 = some r) ?_ (FUEL, (⟨#[]⟩ : ByteArray), 0) h
    rintro ⟨k, s21, s22⟩ h ih
    dsimp only at h ih ⊢
    rcases k with _ | k
    · rw [ref14_Lines_l2] at h; cases h
    rw [ref14_Lines_l2] at h
    refine .seq ?_
    refine .seq ?_
    refine .region ?_
    refine vk (vmvd) ?_
    refine vk (vlda gA_V gS_V) ?_
    obtain ⟨x23, hx23, h⟩ := bnd h
    refine vk (vcl0 (ref14_Prefix_ok hx23) Try.call31) ?_
    obtain ⟨x24, hx24, h⟩ := bnd h
    refine vk (vcl0 (ref08_Width_ok hx24) Try.call32) ?_
    refine vk (vmvd) ?_
    refine vk (vbi) ?_
    refine vk (vbi) ?_
    refine rn ?_
    refine .gh (Gh.keep [0, 3, 4, 5, 6, 7, 28] rfl) ?_
    by_cases hc : s22 < (w64 (x24 + 0))
    · replace h := ite_t hc h
      refine cnt (decide_eq_true hc) ?_
      refine .skip ?_
      show AW _ _ _ _ _ _
      refine .seq ?_
      refine .block ?_
      refine .region ?_
      refine vk (vmvd) ?_
      obtain ⟨x25, hx25, h⟩ := bnd h
      refine vk (vsa hx25) ?_
      refine asd ?_
      refine .nil ?_
      show AW _ _ _ _ _ _
      refine .gh (Gh.keep [0, 3, 4, 5, 6, 7] rfl) ?_
      refine .region ?_
      refine vk (vmvd) ?_
      refine vk (vbi) ?_
      refine asd ?_
      refine .nil ?_
      refine AL.gh (Gh.keep [0, 3, 4, 5, 6, 7] rfl) ?_
      exact ih (k, x25, (w64 (s22 + 1))) h (Nat.lt_succ_self _)
    replace h := ite_f hc h
    refine cnf (decide_eq_false hc) ?_
    refine .exit ?_
    show AW _ _ _ _ _ _
    refine .seq ?_
    refine .drawn 10 mixed (by kernel_rfl) ?_
    refine dv (vmvd) ?_
    obtain ⟨x26, hx26, h⟩ := bnd h
    refine dv (vcl0 (ref14_Text_ok hx26) Try.call45) ?_
    refine dv (vlda gA_V gS_V) ?_
    obtain ⟨x27, hx27, h⟩ := bnd h
    refine dv (vcl0 (ref14_Prefix_ok hx27) Try.call31) ?_
    refine dv (vfa gF_V_2) ?_
    refine dv (vldp ga_string) ?_
    obtain ⟨x28, hx28, h⟩ := bnd h
    refine dv (vsa hx28) ?_
    refine dv (vmvd) ?_
    obtain ⟨x29, hx29, h⟩ := bnd h
    refine dv (vsa hx29) ?_
    refine dv ((vbsl (Ss_flat [x26, x28, x29]) ge_Ss).deep) ?_
    refine dz ?_
    refine asd ?_
    refine rn ?_
    refine .gh (Gh.keep [4] rfl) ?_
    refine .ret ?_
    cases h
    exact ⟨rfl, rfl⟩
  replace h := ite_f hc h
  refine cnf (decide_eq_false hc) ?_
  refine .skip ?_
  show AW _ _ _ _ _ _
  refine .seq ?_
  refine .region ?_
  refine asd ?_
  refine rn ?_
  refine .gh (Gh.keep [0, 3, 4, 5, 6] rfl) ?_
  refine .seq ?_
  refine .seq ?_
  refine .region ?_
  refine asd ?_
  refine rn ?_
  refine .gh (Gh.keep [0, 3, 4, 5, 6, 7] rfl) ?_
  refine .block ?_
  refine .loop (.gh (Gh.keep [0, 3, 4, 5, 6, 7] rfl) ?_)
  refine AL.ind (σ := Nat × ByteArray × Int) (m := fun p => p.1) (e := fun p => [(0, .d (.i .i64 a0)), (3, .d (.ptr [.s a1.1, .i .i64 a1.2.1, .s a1.2.2.1, .i .i64 a1.2.2.2])), (4, .nl), (5, .d (.i .i64 a1.2.2.2)), (6, .d (.s p.2.1)), (7, .d (.i .i64 p.2.2))]) (h := fun p => []) (I := fun p => ref14_Lines_l3 a0 a1 p.1 p.2.1 p.2.2 = some r) ?_ (FUEL, (⟨#[]⟩ : ByteArray), 0) h
  rintro ⟨k, s30, s31⟩ h ih
  dsimp only at h ih ⊢
  rcases k with _ | k
  · rw [ref14_Lines_l3] at h; cases h
  rw [ref14_Lines_l3] at h
  refine .seq ?_
  refine .seq ?_
  refine .region ?_
  refine vk (vmvd) ?_
  refine vk (vlda gA_V gS_V) ?_
  obtain ⟨x32, hx32, h⟩ := bnd h
  refine vk (vcl0 (ref14_Prefix_ok hx32) Try.call31) ?_
  obtain ⟨x33, hx33, h⟩ := bnd h
  refine vk (vcl0 (ref08_Width_ok hx33) Try.call32) ?_
  refine vk (vmvd) ?_
  refine vk (vbi) ?_
  refine vk (vbi) ?_
  refine rn ?_
  refine .gh (Gh.keep [0, 3, 4, 5, 6, 7, 28] rfl) ?_
  by_cases hc : s31 < (w64 (x33 + a1.2.2.2))
  · replace h := ite_t hc h
    refine cnt (decide_eq_true hc) ?_
    refine .skip ?_
    show AW _ _ _ _ _ _
    refine .seq ?_
    refine .block ?_
    refine .region ?_
    refine vk (vmvd) ?_
    obtain ⟨x34, hx34, h⟩ := bnd h
    refine vk (vsa hx34) ?_
    refine asd ?_
    refine .nil ?_
    show AW _ _ _ _ _ _
    refine .gh (Gh.keep [0, 3, 4, 5, 6, 7] rfl) ?_
    refine .region ?_
    refine vk (vmvd) ?_
    refine vk (vbi) ?_
    refine asd ?_
    refine .nil ?_
    refine AL.gh (Gh.keep [0, 3, 4, 5, 6, 7] rfl) ?_
    exact ih (k, x34, (w64 (s31 + 1))) h (Nat.lt_succ_self _)
  replace h := ite_f hc h
  refine cnf (decide_eq_false hc) ?_
  refine .exit ?_
  show AW _ _ _ _ _ _
  refine .seq ?_
  refine .drawn 10 mixed (by kernel_rfl) ?_
  refine dv (vmvd) ?_
  obtain ⟨x35, hx35, h⟩ := bnd h
  refine dv (vcl0 (ref14_Text_ok hx35) Try.call45) ?_
  refine dv (vlda gA_V gS_V) ?_
  obtain ⟨x36, hx36, h⟩ := bnd h
  refine dv (vcl0 (ref14_Prefix_ok hx36) Try.call31) ?_
  refine dv (vfa gF_V_2) ?_
  refine dv (vldp ga_string) ?_
  obtain ⟨x37, hx37, h⟩ := bnd h
  refine dv (vsa hx37) ?_
  refine dv (vmvd) ?_
  obtain ⟨x38, hx38, h⟩ := bnd h
  refine dv (vsa hx38) ?_
  refine dv ((vbsl (Ss_flat [x35, x37, x38]) ge_Ss).deep) ?_
  refine dz ?_
  refine asd ?_
  refine rn ?_
  refine .gh (Gh.keep [4] rfl) ?_
  refine .ret ?_
  cases h
  exact ⟨rfl, rfl⟩

def ref11_SameTexts_l0 (a0 : (List ByteArray)) (a1 : (List ByteArray)) : Nat → Bool → Int → Option (Bool)
  | 0, _, _ => none
  | k + 1, s1, s2 => (if s2 < ((List.length a0 : Nat) : Int) then ((rd? a0 s2).bind fun x3 => ((rd? a1 s2).bind fun x4 => (if x3 = x4 then (ref11_SameTexts_l0 a0 a1 k s1 (w64 (s2 + 1))) else (some (false))))) else (some (true)))
def ref11_SameTexts (a0 : (List ByteArray)) (a1 : (List ByteArray)) : Option (Bool) := (if ((List.length a0 : Nat) : Int) = ((List.length a1 : Nat) : Int) then (ref11_SameTexts_l0 a0 a1 FUEL false 0) else (some (false)))
theorem ref11_SameTexts_ok {a0 : (List ByteArray)} {a1 : (List ByteArray)} {r : Bool} (h : ref11_SameTexts a0 a1 = some r) :
    Fn Try.prog 26 [.sl (Ss a0), .sl (Ss a1)] (.d (.b r)) := by
  unfold ref11_SameTexts at h
  refine Fn.of (rs := [.tmp 4]) (nt := 26) Try.func26 rfl rfl rfl (by simp) rfl ?_
  refine .seq ?_
  refine .region ?_
  refine asd ?_
  refine rn ?_
  refine .gh (Gh.keep [0, 1, 4] rfl) ?_
  refine .seq ?_
  refine .seq ?_
  refine .region ?_
  refine vk (vmvd) ?_
  refine vk (vlnE (Ss_length _) (Ss_sz _) gu_Ss) ?_
  refine vk (vmvd) ?_
  refine vk (vlnE (Ss_length _) (Ss_sz _) gu_Ss) ?_
  refine vk (vbi) ?_
  refine rn ?_
  refine .gh (Gh.keep [0, 1, 4, 10] rfl) ?_
  by_cases hc : ((List.length a0 : Nat) : Int) = ((List.length a1 : Nat) : Int)
  · replace h := ite_t hc h
    refine cnf (ntf (decide_eq_true hc)) ?_
    refine .skip ?_
    show AW _ _ _ _ _ _
    refine .seq ?_
    refine .seq ?_
    refine .region ?_
    refine asd ?_
    refine rn ?_
    refine .gh (Gh.keep [0, 1, 4, 5] rfl) ?_
    refine .block ?_
    refine .loop (.gh (Gh.keep [0, 1, 4, 5] rfl) ?_)
    refine AL.ind (σ := Nat × Bool × Int) (m := fun p => p.1) (e := fun p => [(0, .d (.sl (Ss a0))), (1, .d (.sl (Ss a1))), (4, .d (.b p.2.1)), (5, .d (.i .i64 p.2.2))]) (h := fun p => []) (I := fun p => ref11_SameTexts_l0 a0 a1 p.1 p.2.1 p.2.2 = some r) ?_ (FUEL, false, 0) h
    rintro ⟨k, s1, s2⟩ h ih
    dsimp only at h ih ⊢
    rcases k with _ | k
    · rw [ref11_SameTexts_l0] at h; cases h
    rw [ref11_SameTexts_l0] at h
    refine .seq ?_
    refine .seq ?_
    refine .region ?_
    refine vk (vmvd) ?_
    refine vk (vmvd) ?_
    refine vk (vlnE (Ss_length _) (Ss_sz _) gu_Ss) ?_
    refine vk (vbi) ?_
    refine rn ?_
    refine .gh (Gh.keep [0, 1, 4, 5, 14] rfl) ?_
    by_cases hc : s2 < ((List.length a0 : Nat) : Int)
    · replace h := ite_t hc h
      refine cnt (decide_eq_true hc) ?_
      refine .skip ?_
      show AW _ _ _ _ _ _
      refine .seq ?_
      refine .block ?_
      refine .seq ?_
      refine .drawn 9 mixed (by kernel_rfl) ?_
      refine dv (vmvd) ?_
      refine dv (vmvd) ?_
      obtain ⟨x3, hx3, h⟩ := bnd h
      obtain ⟨nx3, hnx3, hxx3⟩ := rd_some hx3
      refine dv (vix nx3 hnx3 (Ss_at hxx3) rfl gs_Ss) ?_
      refine dv (vldp ga_string) ?_
      refine dv (vmvd) ?_
      refine dv (vmvd) ?_
      obtain ⟨x4, hx4, h⟩ := bnd h
      obtain ⟨nx4, hnx4, hxx4⟩ := rd_some hx4
      refine dv (vix nx4 hnx4 (Ss_at hxx4) rfl gs_Ss) ?_
      refine dv (vldp ga_string) ?_
      refine dv (vsq (.inr rfl)) ?_
      refine dz ?_
      refine rn ?_
      refine .gh (Gh.keep [0, 1, 4, 5, 25] rfl) ?_
      by_cases hc : x3 = x4
      · replace h := ite_t hc h
        refine cnf (ntf (decide_eq_true hc)) ?_
        refine .skip ?_
        show AW _ _ _ _ _ _
        refine .region ?_
        refine vk (vmvd) ?_
        refine vk (vbi) ?_
        refine asd ?_
        refine .nil ?_
        refine AL.gh (Gh.keep [0, 1, 4, 5] rfl) ?_
        exact ih (k, s1, (w64 (s2 + 1))) h (Nat.lt_succ_self _)
      replace h := ite_f hc h
      refine cnt (ntt (decide_eq_false hc)) ?_
      refine .seq ?_
      refine .region ?_
      refine asd ?_
      refine rn ?_
      refine .gh (Gh.keep [0, 1, 4, 5] rfl) ?_
      refine .ret ?_
      cases h
      exact ⟨rfl, rfl⟩
    replace h := ite_f hc h
    refine cnf (decide_eq_false hc) ?_
    refine .exit ?_
    show AW _ _ _ _ _ _
    refine .seq ?_
    refine .region ?_
    refine asd ?_
    refine rn ?_
    refine .gh (Gh.keep [4] rfl) ?_
    refine .ret ?_
    cases h
    exact ⟨rfl, rfl⟩
  replace h := ite_f hc h
  refine cnt (ntt (decide_eq_false hc)) ?_
  refine .seq ?_
  refine .region ?_
  refine asd ?_
  refine rn ?_
  refine .gh (Gh.keep [0, 1, 4] rfl) ?_
  refine .ret ?_
  cases h
  exact ⟨rfl, rfl⟩
end Go.FL
