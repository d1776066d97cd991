/-
  Part 4 of the base of the proofs: a logic of our own over the calculus, the contracts of the functions
-/
import Derived.Test.YtcoofpnbnifbbaaRoC
set_option linter.unusedVariables false
/-
  A FUNCTIONAL LOGIC, 41: arrays of constants, and a place in an array.
-/
namespace Go.FL
open Go Go.RowKit

section
variable {P : Program} {C : Cx} {o : Oper} {env : Env} {H : Heap}
def isK : Nat × Operand → Bool
  | (_, .const _) => true
  | _ => false
def cpart : Nat × Operand → Nat × Value
  | (i, .const v) => (i, v)
  | (i, _) => (i, undef)
theorem eval_consts {a : Act} : ∀ {xs : List (Nat × Operand)}, xs.all isK = true → xs.map (fun x => (x.1, a.eval x.2)) = xs.map cpart
  | [], _ => rfl
  | (i, x) :: xs, h => by
    rw [List.all_cons, Bool.and_eq_true] at h
    rw [List.map_cons, List.map_cons, eval_consts h.2]
    cases x with
    | const v => rfl
    | _ => exact absurd h.1 (by simp [isK])
/-- A struct or an array out of constants. -/
theorem vbdK {ty : Nat} {parts : Array (Nat × Operand)} {cells : Array Value} {cs : List DV} {cp : List (Nat × Value)} (hcp : parts.toList.map cpart = cp) (hb : P.built ty cp = some cells) (hr : ∀ w I, RepAll w I cs cells.toList)
    (ho : o.op = .build ty parts := by rfl) (hk : parts.toList.all isK = true := by rfl) : VOK P C o env H (.d (.ag cs)) :=
  .val (by simp [ho]) fun X a w I μ O _ _ _ hs => by
    have hb' : P.built ty (parts.map fun x => (x.1, a.eval x.2)).toList = some cells := by
      rw [Array.toList_map, eval_consts hk, hcp]; exact hb
    refine ⟨.agg cells, w, I, [], ?_, Below.refl _ _, fun _ h => h, fun b hi => ⟨hs.ilt b hi, fun _ => hi⟩, .d ?_, List.nodup_nil, by simp⟩
    · simp only [execOp, ho, Sem.run_bind]
      have := run_build (P := P) w ty (parts.map fun x => (x.1, a.eval x.2)) cells hb'
      rw [show (parts.map fun x => match x with | (i, x) => (i, a.eval x)) = parts.map (fun (x : Nat × Operand) => (x.1, a.eval x.2)) from rfl, this]
      simp only [Result.andThen_ok, Sem.run_pure]
    · have := Rep.ag cs cells.toList (hr w I)
      simpa using this
def arrT (P : Program) (t n e : Nat) : Bool := match P.underlying t with
  | some (.array m e') => Nat.beq m n && Nat.beq e' e
  | _ => false
/-- A place in an array of one-cell elements, behind a pointer to what no longer changes. -/
theorem via {x i : Operand} {ty e n : Nat} {cs ds : List DV} {k : IntKind} {z : Int} (hty : arrT P ty n e = true) (hsz : szOf P e = 1) (hz : 0 ≤ z ∧ z < (n : Int)) (hds : cs.drop z.toNat = ds) (ho : o.op = .indexAddr ty x i := by rfl)
    (hv : lk env x = .d (.ptr cs) := by rfl) (hi : lk env i = .d (.i k z) := by rfl) : VOK P C o env H (.d (.ptr ds)) := by
  obtain ⟨h1, h2⟩ := lk_copy hv (by simp)
  obtain ⟨h3, h4⟩ := lk_copy hi (by simp)
  refine .pv ⟨by simp [ho], fun X a w I μ O _ hs => ?_⟩
  obtain ⟨b, p, vs, he, g1, g2, g3⟩ := hs.dp h1 h2
  have hni := hs.look_i h3 h4
  subst hds
  refine ⟨.pointer (some ⟨b, p + z.toNat, none⟩), ?_, .of_rep (.ptr _ _ _ _ g1 (g2.drop z.toNat) (g3.drop z.toNat))⟩
  unfold arrT at hty
  split at hty
  · rename_i m e' hu
    rw [Bool.and_eq_true] at hty
    have e1 := Nat.eq_of_beq_eq_true hty.1
    have e2 := Nat.eq_of_beq_eq_true hty.2
    subst e1; subst e2
    have ea : P.arrayLen ty = m := by simp [Program.arrayLen, hu]
    have ee : P.elem ty = e' := by simp [Program.elem, hu]
    have hs1 : (sizeOf e').run P w = .ok 1 w := by
      obtain ⟨inf, i1, i2⟩ := szOf_info (P := P) (t := e') (by omega)
      rw [run_sizeOf i1]
      congr 1; omega
    simp only [execOp, ho, he, hni, Sem.run_bind]
    rw [run_indexAt_array w ty ⟨b, p, none⟩ k z (by rw [ea, ee]; exact hu), ea, ee, if_pos hz, hs1]
    simp [Addr.add]
  · cases hty
end
end Go.FL
/-
  report.word.
-/
namespace Go.FL
open Go Go.Proofs Go.RowKit

/-- The words, as the program's array has them. -/
def words : List ByteArray := [⟨#[]⟩, ⟨#[83, 89, 78, 84, 65, 88]⟩, ⟨#[86, 65, 76, 85, 69]⟩, ⟨#[68, 79, 77, 65, 73, 78]⟩, ⟨#[82, 65, 78, 75]⟩, ⟨#[76, 69, 78, 71, 84, 72]⟩, ⟨#[73, 78, 68, 69, 88]⟩, ⟨#[65, 88, 73, 83]⟩, ⟨#[76, 73, 77, 73, 84]⟩] ++ List.replicate 19 ⟨#[]⟩ ++ [⟨#[68, 69, 70, 78]⟩]
/-- The word of an error's number. -/
def wordB (e : Int) : ByteArray := if 0 ≤ e then words.getD e.toNat ⟨#[]⟩ else ⟨#[]⟩
theorem rep_words (w : World) (I : Nat → Prop) : ∀ xs : List ByteArray, RepAll w I (Ss xs) (xs.map Value.string)
  | [] => .nil
  | x :: xs => .cons (.s x) (rep_words w I xs)
theorem rep_empty (w : World) (I : Nat → Prop) : RepAll w I (Ss (List.replicate 29 ByteArray.empty)) (Value.cells (.agg ((List.replicate 29 ByteArray.empty).map Value.string).toArray)).toList := by
  exact rep_words w I _
theorem word_fn (e : Int) : Fn Try.prog 86 [.i .i64 e] (.d (.s (wordB e))) := by
  refine Fn.of (rs := [.tmp 2]) (nt := 14) Try.func86 rfl rfl rfl (by simp) rfl ?_
  refine .seq ?_
  refine .region ?_
  refine asd ?_
  refine rn ?_
  refine .seq ?_
  refine .region ?_
  refine vk (vbdK (cells := (words.map Value.string).toArray) (cs := Ss words) rfl (by kernel_rfl) (fun w I => rep_words w I words)) ?_
  refine vk (van (z := .agg ((List.replicate 29 ByteArray.empty).map Value.string).toArray) (zero_of (by kernel_rfl)) rep_empty) ?_
  refine stn ?_ (n := 29) (by kernel_rfl) (by decide)
  refine rn ?_
  refine .seq ?_
  refine .seq ?_
  refine .region ?_
  refine mvd ?_
  refine vk (vbi) ?_
  by_cases h0 : e < 0
  · have hb0 : decide (e < 0) = true := decide_eq_true h0
    refine vk (VOK.lit (vmvd) hb0) ?_
    refine gf ?_
    refine gf ?_
    refine vk (vpkd) ?_
    refine rn ?_
    refine cnt rfl ?_
    refine .seq ?_
    refine .region ?_
    refine asd ?_
    refine rn ?_
    refine .ret ?_
    exact ⟨by rw [show wordB e = ⟨#[]⟩ from if_neg (by omega)]; rfl, rfl⟩
  · have hb0 : decide (e < 0) = false := decide_eq_false h0
    refine vk (VOK.lit (vmvd) hb0) ?_
    refine mvd ?_
    refine vk (vbi) ?_
    refine vk (vpkd) ?_
    refine rn ?_
    by_cases h1 : 29 ≤ e
    · refine cnt (decide_eq_true h1) ?_
      refine .seq ?_
      refine .region ?_
      refine asd ?_
      refine rn ?_
      refine .ret ?_
      exact ⟨by rw [show wordB e = ⟨#[]⟩ by rw [wordB, if_pos (by omega), List.getD_eq_getElem?_getD, List.getElem?_eq_none (by show 29 ≤ e.toNat; omega)]; rfl]; rfl, rfl⟩
    · refine cnf (decide_eq_false h1) ?_
      refine .skip ?_
      show AW _ _ _ _ _ _
      refine .seq ?_
      refine .region ?_
      refine RL.gh (Gh.nbp (t := 3) rfl) ?_
      refine mvd ?_
      have hlt : e.toNat < words.length := by show e.toNat < 29; omega
      have hds : (Ss words).drop e.toNat = .s words[e.toNat] :: (Ss words).drop (e.toNat + 1) := by
        rw [List.drop_eq_getElem_cons (by rw [Ss_length]; exact hlt)]
        congr 1
        simp [Ss]
      refine vk (via (e := 9) (n := 29) (by kernel_rfl) (by kernel_rfl) (show 0 ≤ e ∧ e < ((29 : Nat) : Int) by omega) hds) ?_
      refine vk (vldp ga_string) ?_
      refine asd ?_
      refine rn ?_
      refine .ret ?_
      have hw : wordB e = words[e.toNat] := by rw [wordB, if_pos (by omega), List.getD_eq_getElem?_getD, List.getElem?_eq_getElem hlt]; rfl
      exact ⟨by rw [hw]; rfl, rfl⟩
end Go.FL
/-
  strings.Repeat of a space, very often: the buffer that Grow lays has room for all, so no write lays another.
-/
set_option linter.unusedVariables false
namespace Go.Proofs
open Go.Shelf Go.RowKit Go.Lib
variable {P : Program} {ρ : Ren}

/-- A builder whose buffer g has room for cap bytes and holds the bytes l. -/
def Roomy (ρ : Ren) (B b g cap : Nat) (l : List UInt8) (w : World) : Prop :=
  B ≤ b ∧ B ≤ g ∧ g ≠ b ∧ w.heap[b]? = some (.cells #[.pointer (some ⟨b, 0, none⟩), .slice (some ⟨g, 0, none⟩) l.length cap] (ρ.t 72) (0, 0)) ∧
  ∃ cur fz, w.heap[g]? = some (.cells cur (ρ.t 5) fz) ∧ fz.2 ≤ l.length ∧ l.length ≤ cap ∧ cap ≤ maxLen ∧ cur.size = cap ∧ cur.toList.take l.length = Lib.byteCells l
theorem Roomy.builder {B b g cap : Nat} {l : List UInt8} {w : World} (h : Roomy ρ B b g cap l w) : IsBuilderF (ρ.t 72) (ρ.t 5) B b (Lib.byteCells l) w := by
  obtain ⟨h1, h2, h3, h4, cur, fz, h5, h6, h7, h8, h9, h10⟩ := h
  refine .inr ⟨h1, _, h4, ?_, by simp [Value.ownBlock, h3]⟩
  rw [Lib.byteCells_length]
  exact ⟨by simp [Lib.byteCells_length], .inr ⟨g, cap, cur, fz, rfl, h2, h5, by simpa using h6, h7, h8, by simpa using h9, by simpa using h10⟩⟩
theorem Roomy.froze {B b g cap : Nat} {l : List UInt8} {w : World} (h : Roomy ρ B b g cap l w) : Roomy ρ B b g cap l (w.freeze ⟨g, 0, none⟩ l.length) := by
  have h0 := h
  obtain ⟨h1, h2, h3, h4, cur, ⟨lo, hi⟩, h5, h6, h7, h8, h9, h10⟩ := h
  unfold World.freeze
  split
  · exact h0
  · refine ⟨h1, h2, h3, ?_, cur, (if lo == hi then (0, 0 + l.length) else (min lo 0, max hi (0 + l.length))), ?_, ?_, h7, h8, h9, h10⟩
    · simp only [Array.getElem?_modify]
      rw [if_neg h3]; exact h4
    · simp [Array.getElem?_modify, h5]
    · simp only at h6
      split <;> simp <;> omega

set_option maxHeartbeats 2000000 in
set_option maxRecDepth 100000 in
theorem roomy_string (L : Lays.n169 P ρ) (X : Builder.Extra P ρ) (B b g cap : Nat) (l : List UInt8) (w : World) (h : Roomy ρ B b g cap l w) (h0 : l ≠ []) :
    Calls P (ρ.f 169) #[.pointer (some ⟨b, 0, none⟩)] w fun e w' => e = .returned (.string ⟨l.toArray⟩) ∧ (Roomy ρ B b g cap l w' ∧ Below B w w') := by
  have hkeep : Roomy ρ B b g cap l (w.drew.freeze ⟨g, 0, none⟩ l.length) := Roomy.froze (w := w.drew) h
  obtain ⟨h1, h2, h3, h4, cur, fz, h5, h6, h7, h8, h9, h10⟩ := h
  have hl0 : l.length ≠ 0 := by simpa using h0
  have c1 : w.drew.cell? ⟨b, 1, none⟩ = some (.slice (some ⟨g, 0, none⟩) l.length cap) := by
    have : w.drew.heap[b]? = some (.cells #[.pointer (some ⟨b, 0, none⟩), .slice (some ⟨g, 0, none⟩) l.length cap] (ρ.t 72) (0, 0)) := h4
    rw [Lib.cell_of_heap this]; rfl
  have hSD : (Builtin.unsafeSliceData_ #[(ρ.t 37)] (ρ.t 127) #[.slice (some ⟨g, 0, none⟩) l.length cap]).run P w.drew = .ok (.pointer (some ⟨g, 0, none⟩)) w.drew :=
    Lib.run_unsafeSliceData_row _ _ _ _ _ _ (by omega)
  have hUS : (Builtin.unsafeString_ #[(ρ.t 127), (ρ.t 3)] (ρ.t 9) #[.pointer (some ⟨g, 0, none⟩), .int .i64 l.length]).run P w.drew = .ok (.string ⟨l.toArray⟩) (w.drew.freeze ⟨g, 0, none⟩ l.length) := by
    have hg' : w.drew.heap[g]? = some (.cells cur (ρ.t 5) fz) := h5
    refine Lib.run_unsafeString_row w.drew (ρ.t 127) (ρ.t 3) (ρ.t 9) (ρ.t 5) L.t127 X.cellsByte g cur.size (by simp [World.shape?, hg']) l h0 (by omega) (by unfold maxLen at h8; omega) ?_
    intro j x hx
    have hj : (Lib.byteCells l)[j]? = some (.int .u8 x.toNat) := by simp [Lib.byteCells, hx]
    rw [← h10, List.getElem?_take] at hj
    split at hj
    · have hb := Lib.cell_of_heap hg' j
      rw [Addr.add_lit, Nat.zero_add, hb]; simpa using hj
    · cases hj
  have mixed := L.mixed
  have t72 := L.t72; have a72 := L.a72; have z72 := L.z72; have v72 := L.v72; have u72 := run_underlying L.t72
  have t70 := L.t70; have a70 := L.a70; have z70 := L.z70; have v70 := L.v70; have u70 := run_underlying L.t70
  have t37 := L.t37; have a37 := L.a37; have z37 := L.z37; have v37 := L.v37; have u37 := run_underlying L.t37
  have t127 := L.t127; have a127 := L.a127; have z127 := L.z127; have v127 := L.v127; have u127 := run_underlying L.t127
  have t3 := L.t3; have a3 := L.a3; have z3 := L.z3; have v3 := L.v3; have u3 := run_underlying L.t3
  have t9 := L.t9; have a9 := L.a9; have z9 := L.z9; have v9 := L.v9; have u9 := run_underlying L.t9
  have t5 := X.t5; have a5 := X.a5; have z5 := X.z5; have v5 := X.v5; have u5 := run_underlying X.t5
  go_enter L.f169, Body.n169_ntmps ρ
  go_wp2
  go_region_o
  all_goals (go_wp2; go_ret; exact ⟨rfl, hkeep, Lib.below_freeze (Below.drew (Below.refl B w)) (p := ⟨g, 0, none⟩) h2 _⟩)

/-- An append whose run is known. -/
theorem wpList_append_run {ops : Array Oper} {rest : List Oper} {o : Oper} {a : Act} {Q : Exit → Act → World → Prop} {w w' : World} {v v' x' : Value} (hgd : o.guard = none) (sl x : Operand) (t u : TypeId)
    (ho : o.op = .call { callee := .builtin .append, args := #[sl, x], argTypes := #[t, u] }) (hs : a.eval sl = v) (hx : a.eval x = x') (hr : (Builtin.append_ #[t, u] o.type #[v, x']).run P w = .ok v' w')
    (h : wpList P ops Q rest (a.put o.dst v') w') : wpList P ops Q (o :: rest) a w := by
  refine wpList_plain hgd fun K hK => ?_
  unfold Oper.wp execOp
  simp only [ho, resolve, invoke, builtin, Sem.run_bind, Sem.run_pure, Result.andThen_ok, List.map_toArray, List.map_cons, List.map_nil, hs, hx, hr]
  exact hK _ _ h

set_option maxHeartbeats 2000000 in
set_option maxRecDepth 100000 in
theorem roomy_write (L : Lays.n166 P ρ) (X : Builder.Extra P ρ) (B b g cap : Nat) (l : List UInt8) (s : ByteArray) (w : World) (h : Roomy ρ B b g cap l w) (hs : l.length + s.size ≤ cap) :
    Calls P (ρ.f 166) #[.pointer (some ⟨b, 0, none⟩), .string s] w fun e w' => e = .returned (.tuple #[.int .i64 s.size, .nilIface]) ∧ (Roomy ρ B b g cap (l ++ s.data.toList) w' ∧ Below B w w') := by
  obtain ⟨h1, h2, h3, h4, cur, fz, h5, h6, h7, h8, h9, h10⟩ := h
  obtain ⟨i0, hi, hz0, hz1, hz2⟩ := info_parts X.infoByte
  have hap := run_append_room_stringF (P := P) w (ρ.t 37) (ρ.t 9) (ρ.t 37) (ρ.t 5) i0 L.t37 L.t9 hi hz1 g l.length cap cur fz h5 h6 s hs (by omega)
  obtain ⟨cs, hcs⟩ : ∃ cs : Array Value, (cur.toList.take l.length ++ Lib.strCells s ++ cur.toList.drop (l.length + s.size)).toArray = cs := ⟨_, rfl⟩
  rw [hcs] at hap
  have hsz : cs.size = cap := by
    rw [← hcs]
    simp only [List.size_toArray, List.length_append, List.length_take, List.length_drop, Array.length_toList, Lib.strCells_length]
    omega
  have htk : cs.toList.take (l ++ s.data.toList).length = Lib.byteCells (l ++ s.data.toList) := by
    rw [← hcs, h10, Lib.byteCells_append, ← Lib.strCells_eq]
    have hl : (Lib.byteCells l ++ Lib.strCells s).length = (l ++ s.data.toList).length := by
      rw [List.length_append, Lib.byteCells_length, Lib.strCells_length, List.length_append, Lib.size_eq]
    rw [← hl]
    exact List.take_left
  have hb1 : (w.setRow g cs).heap[b]? = some (.cells #[.pointer (some ⟨b, 0, none⟩), .slice (some ⟨g, 0, none⟩) l.length cap] (ρ.t 72) (0, 0)) := (setRow_other w g b cs (Ne.symm h3)).trans h4
  have hg1 : (w.setRow g cs).heap[g]? = some (.cells cs (ρ.t 5) fz) := setRow_heap w g cur cs _ _ h5
  have c0 : w.cell? ⟨b, 0, none⟩ = some (.pointer (some ⟨b, 0, none⟩)) := by rw [Lib.cell_of_heap h4]; rfl
  have c1 : w.cell? ⟨b, 1, none⟩ = some (.slice (some ⟨g, 0, none⟩) l.length cap) := by rw [Lib.cell_of_heap h4]; rfl
  have d0 : (w.setRow g cs).cell? ⟨b, 0, none⟩ = some (.pointer (some ⟨b, 0, none⟩)) := by rw [Lib.cell_of_heap hb1]; rfl
  have d1 : (w.setRow g cs).cell? ⟨b, 1, none⟩ = some (.slice (some ⟨g, 0, none⟩) l.length cap) := by rw [Lib.cell_of_heap hb1]; rfl
  have f1 : (w.setRow g cs).frozen? ⟨b, 1, none⟩ = false := Lib.frozen_of_heap hb1 1
  have hfin : Roomy ρ B b g cap (l ++ s.data.toList) ((w.setRow g cs).setCell ⟨b, 1, none⟩ (.slice (some ⟨g, 0, none⟩) (l.length + s.size) cap)) := by
    have hlen : (l ++ s.data.toList).length = l.length + s.size := by rw [List.length_append, Lib.size_eq]
    refine ⟨h1, h2, h3, ?_, cs, fz, ?_, by omega, by omega, h8, hsz, htk⟩
    · rw [hlen]; simp [World.setCell, Array.getElem?_modify, hb1]
    · simp [World.setCell, Array.getElem?_modify, hg1, Ne.symm h3]
  have hbel : Below B w ((w.setRow g cs).setCell ⟨b, 1, none⟩ (.slice (some ⟨g, 0, none⟩) (l.length + s.size) cap)) := (Below.trans (Below.refl B w) ⟨rfl, rfl, rfl, by simp [World.setRow], fun k hk => setRow_other w g k cs (by omega)⟩ : Below B w (w.setRow g cs)).setCell (p := ⟨b, 1, none⟩) h1 _
  clear hcs htk hsz
  have mixed := L.mixed
  have t72 := L.t72; have a72 := L.a72; have z72 := L.z72; have v72 := L.v72; have u72 := run_underlying L.t72
  have t70 := L.t70; have a70 := L.a70; have z70 := L.z70; have v70 := L.v70; have u70 := run_underlying L.t70
  have t37 := L.t37; have a37 := L.a37; have z37 := L.z37; have v37 := L.v37; have u37 := run_underlying L.t37
  have t3 := L.t3; have a3 := L.a3; have z3 := L.z3; have v3 := L.v3; have u3 := run_underlying L.t3
  have t9 := L.t9; have a9 := L.a9; have z9 := L.z9; have v9 := L.v9; have u9 := run_underlying L.t9
  have t4 := L.t4; have a4 := L.a4; have z4 := L.z4; have v4 := L.v4; have u4 := run_underlying L.t4
  have t164 := L.t164; have a164 := L.a164; have z164 := L.z164; have v164 := L.v164; have u164 := run_underlying L.t164
  have t5 := X.t5; have a5 := X.a5; have z5 := X.z5; have v5 := X.v5; have u5 := run_underlying X.t5
  have e240 : ∀ args w, (callFunc (ρ.f 240) args).run P w = .ok (.enter (ρ.f 240) args) w := enters_of L.f240 (by kernel_rfl) rfl
  go_enter L.f166, Body.n166_ntmps ρ
  go_wp2_with (first | (at_builtin; refine wpList_append_run rfl _ _ (ρ.t 37) (ρ.t 9) rfl rfl rfl hap ?_) | (go_at_fn (ρ.f 240); refine (Any.Builder_copyCheck_used { L with } X.toX72 b w c0).mono ?_; rintro e w' ⟨rfl, rfl⟩))
  go_ret2
  exact ⟨rfl, hfin, hbel⟩
theorem roomy_grown {B b n : Nat} {w : World} (h : BuilderAt (ρ.t 72) (ρ.t 5) B b (.pointer (some ⟨b, 0, none⟩)) [] w) (hn : 0 < n) (hc : ∃ p cap, w.cell? ⟨b, 1, none⟩ = some (.slice p 0 cap) ∧ n ≤ cap) : ∃ g cap, n ≤ cap ∧ Roomy ρ B b g cap [] w := by
  obtain ⟨hB, v, hbk, hown, hne⟩ := BuilderAtF.of h
  obtain ⟨p, cap, hc, hle⟩ := hc
  rw [Lib.cell_of_heap hbk] at hc
  have hv : v = .slice p 0 cap := by simpa using hc
  subst hv
  rcases hown.2 with ⟨hv, _⟩ | ⟨g, cap', cur, fz, hv, hbg, hg, hfz, hnc, hcm, hcs, htake⟩
  · injection hv with _ _ h3; omega
  · injection hv with ha _ hcap
    subst ha; subst hcap
    exact ⟨g, cap, hle, hB, hbg, fun e => hne (by simp [Value.ownBlock, e]), hbk, cur, fz, hg, by simpa using hfz, Nat.zero_le _, hcm, by simpa using hcs, rfl⟩

set_option maxHeartbeats 4000000 in
set_option maxRecDepth 1000000 in
theorem repeat_big (L : Lays.n105 P ρ) (X : Builder.Extra P ρ) (c : Nat) (w : World) (h1 : 8192 < c) (h2 : c ≤ 281474976710656) :
    Calls P (ρ.f 105) #[.string ⟨#[32]⟩, .int .i64 c] w fun e w' => e = .returned (.string ⟨(List.replicate c (32 : UInt8)).toArray⟩) ∧ Below w.heap.size w w' := by
  have hMul := Any.bits_Mul { L with } 1 c (by omega) (by omega) w
  rw [Nat.one_mul, Nat.div_eq_of_lt (by omega : c < 18446744073709551616), Nat.mod_eq_of_lt (by omega : c < 18446744073709551616)] at hMul
  have g1 : ¬ ((c : Int) ≤ 128) := by omega
  have g2 : ¬ ((c : Int) ≤ 64) := by omega
  have g3 : (8192 : Int) < (c : Int) := by omega
  have t0 := L.t0; have a0 := L.a0; have z0 := L.z0; have v0 := L.v0
  have t3 := L.t3; have a3 := L.a3; have z3 := L.z3; have v3 := L.v3
  have t4 := L.t4; have a4 := L.a4; have z4 := L.z4; have v4 := L.v4
  have t5 := L.t5; have a5 := L.a5; have z5 := L.z5; have v5 := L.v5
  have t9 := L.t9; have a9 := L.a9; have z9 := L.z9; have v9 := L.v9
  have t20 := L.t20; have a20 := L.a20; have z20 := L.z20; have v20 := L.v20
  have t37 := L.t37; have a37 := L.a37; have z37 := L.z37; have v37 := L.v37
  have t46 := L.t46; have a46 := L.a46; have z46 := L.z46; have v46 := L.v46
  have t51 := L.t51; have a51 := L.a51; have z51 := L.z51; have v51 := L.v51
  have t53 := L.t53; have a53 := L.a53; have z53 := L.z53; have v53 := L.v53
  have t70 := L.t70; have a70 := L.a70; have z70 := L.z70; have v70 := L.v70
  have t72 := L.t72; have a72 := L.a72; have z72 := L.z72; have v72 := L.v72
  have t75 := L.t75; have a75 := L.a75; have z75 := L.z75; have v75 := L.v75
  have t76 := L.t76; have a76 := L.a76; have z76 := L.z76; have v76 := L.v76
  have e99 : ∀ args w, (callFunc (ρ.f 99) args).run P w = .ok (.enter (ρ.f 99) args) w := enters_of L.f99 (by kernel_rfl) rfl
  have e165 : ∀ args w, (callFunc (ρ.f 165) args).run P w = .ok (.enter (ρ.f 165) args) w := enters_of L.f165 (by kernel_rfl) rfl
  have e166 : ∀ args w, (callFunc (ρ.f 166) args).run P w = .ok (.enter (ρ.f 166) args) w := enters_of L.f166 (by kernel_rfl) rfl
  have e169 : ∀ args w, (callFunc (ρ.f 169) args).run P w = .ok (.enter (ρ.f 169) args) w := enters_of L.f169 (by kernel_rfl) rfl
  have e170 : ∀ args w, (callFunc (ρ.f 170) args).run P w = .ok (.enter (ρ.f 170) args) w := enters_of L.f170 (by kernel_rfl) rfl
  have e212 : ∀ args w, (callFunc (ρ.f 212) args).run P w = .ok (.enter (ρ.f 212) args) w := enters_of L.f212 (by kernel_rfl) rfl
  go_enter L.f105, Body.n105_ntmps ρ
  go_upto_block 1 with (go_at_fn (ρ.f 212); go_fit hMul; rintro e w' ⟨rfl, hw⟩; rw [hw])
  clear hMul
  go_upto_if 96 with fail
  have b0 : Below w.heap.size w (w.alloc (.cells #[.pointer none, .slice none 0 0] (ρ.t 72))) := (Below.refl _ w).alloc (Nat.le_refl _) _
  have cG := Any.Builder_Grow_fresh_cap { L with } X w.heap.size w.heap.size c (w.alloc (.cells #[.pointer none, .slice none 0 0] (ρ.t 72))) (Nat.le_refl _) (heap_alloc_new w _) b0.size h2
  go_wp2_with (go_at_fn (ρ.f 165); go_fit cG; rintro e W1 ⟨rfl, ⟨k1, b1⟩, k2⟩)
  clear cG
  obtain ⟨g, cap, hcap, R0⟩ := roomy_grown k1 (by omega) k2
  have cW := roomy_write { L with } X w.heap.size w.heap.size g cap [] ⟨#[32]⟩ W1 R0 (by show 0 + 1 ≤ cap; omega)
  go_wp2_with (go_at_fn (ρ.f 166); go_fit cW; rintro e W2 ⟨rfl, R1, b2⟩)
  clear cW
  have b02 : Below w.heap.size w W2 := b0.trans (b1.trans b2)
  have R2 : Roomy ρ w.heap.size w.heap.size g cap (List.replicate 1 (32 : UInt8)) W2 := R1
  clear R0 R1 k1 k2 b0 b1 b2
  go_loopg [] (c - 1) (fun gk wx => ∃ q : Nat, 1 ≤ q ∧ q + gk = c ∧ Roomy ρ w.heap.size w.heap.size g cap (List.replicate q (32 : UInt8)) wx ∧ Below w.heap.size w wx)
  case atStart => exact ⟨1, Nat.le_refl _, by omega, R2, b02⟩
  case round =>
    obtain ⟨q, hq1, hqg, hB, hbx⟩ := hrel
    have cLen := Any.Builder_Len_f { L with } w.heap.size w.heap.size _ wr hB.builder
    rw [Lib.byteCells_length, List.length_replicate] at cLen
    have cStr := roomy_string { L with } X w.heap.size w.heap.size g cap (List.replicate q (32 : UInt8)) wr hB (by
      intro h; have := congrArg List.length h; simp at this; omega)
    obtain ⟨S, hS⟩ : ∃ S : ByteArray, (⟨(List.replicate q (32 : UInt8)).toArray⟩ : ByteArray) = S := ⟨_, rfl⟩
    have hSd : S.data.toList = List.replicate q (32 : UInt8) := by rw [← hS]
    have hSz : S.size = q := by rw [Lib.size_eq, hSd, List.length_replicate]
    rw [hS] at cStr
    cases gk with
    | zero =>
      obtain rfl : q = c := by omega
      have hQn : ¬ ((q : Int) < (q : Int)) := by omega
      go_wp2_with (first
        | (go_at_fn (ρ.f 170); go_fit cLen; rintro e w' ⟨rfl, hw⟩; rw [hw])
        | (go_at_fn (ρ.f 169); go_fit cStr; rintro e W3 ⟨rfl, h3, b3⟩))
      go_ret
      exact ⟨by rw [hS] <;> rfl, hbx.trans b3⟩
    | succ gk =>
      have hqc : q < c := by omega
      have hQn : (q : Int) < (c : Int) := by omega
      obtain ⟨k, hk⟩ : ∃ k : Nat, min (c - q) (min q 8192) = k := ⟨_, rfl⟩
      have hmin3 : ∀ (ts : Array TypeId) (t : TypeId) (W : World), (Builtin.min_ ts t #[.int .i64 ((c : Int) - (q : Int)), .int .i64 (q : Int), .int .i64 8192]).run P W = .ok (.int .i64 (k : Int)) W := fun ts t W => by
        rw [run_min_int3]
        congr 2
        omega
      have hk1 : 1 ≤ k := by omega
      have hkq : k ≤ q := by omega
      have hkc : q + k ≤ c := by omega
      clear hk
      go_wp2_with (first
        | (go_at_fn (ρ.f 170); go_fit cLen; rintro e w' ⟨rfl, hw⟩; rw [hw])
        | (go_at_fn (ρ.f 169); go_fit cStr; rintro e W3 ⟨rfl, h3, b3⟩))
      have hex : (S.extract 0 k).data.toList = List.replicate k (32 : UInt8) := by
        rw [Lib.extract_data, hSd]
        simp only [List.drop_zero, Nat.sub_zero, List.take_replicate]
        congr 1; omega
      have cWr := roomy_write { L with } X w.heap.size w.heap.size g cap _ (S.extract 0 k) W3 h3 (by
        rw [Lib.size_eq, hex, List.length_replicate, List.length_replicate]; omega)
      go_wp2_with (go_at_fn (ρ.f 166); go_fit cWr; rintro e W4 ⟨rfl, h4, b4⟩)
      go_roundg (c - (q + k))
      case measure => omega
      case rel =>
        refine ⟨q + k, by omega, by omega, ?_, hbx.trans (b3.trans b4)⟩
        rw [hex, List.replicate_append_replicate] at h4
        exact h4
end Go.Proofs
/-
  Contracts that the report's functions call: strings.Repeat, report.word.
-/
namespace Go.FL
open Go Go.Proofs Go.RowKit

theorem repExtra : Builder.Extra Try.prog Try.laysRepeat_ren where
  sizeBuilder := by kernel_rfl
  liesBuilder := by kernel_rfl
  t5 := Try.laysRepeat.t5
  a5 := Try.laysRepeat.a5
  z5 := Try.laysRepeat.z5
  v5 := Try.laysRepeat.v5
  infoByte := by kernel_rfl
  cellsByte := by kernel_rfl
  sizeByte := by kernel_rfl
  neB5 := by decide
theorem repNum : Try.laysRepeat_ren.f 105 = 72 := by kernel_rfl
def repB (s : ByteArray) (n : Nat) : ByteArray := ⟨(Lib.repeatL s.data.toList n).toArray⟩
theorem repeatL_one32 : ∀ n, Lib.repeatL [(32 : UInt8)] n = List.replicate n 32
  | 0 => rfl
  | n + 1 => by
    show [(32 : UInt8)] ++ Lib.repeatL [32] n = _
    rw [repeatL_one32 n]; rfl
def sRepeat (s : ByteArray) (n : Int) : Option ByteArray := if 0 ≤ n ∧ n ≤ 9223372036854775807 ∧ (s.size * n.toNat ≤ 140737488355328 ∨ (s.data = #[32] ∧ n ≤ 281474976710656)) then some (repB s n.toNat) else none
theorem sRepeat_ok {s : ByteArray} {n : Int} {r : ByteArray} (h : sRepeat s n = some r) : Fn Try.prog 72 [.s s, .i .i64 n] (.d (.s r)) := by
  obtain ⟨hc, h⟩ := ite_n h
  cases h
  obtain ⟨c, rfl⟩ : ∃ c : Nat, n = (c : Int) := ⟨n.toNat, by omega⟩
  refine Fn.of_calls (v := .string (repB s c)) (fun w I => .s _) fun w I vs hv => ?_
  cases hv with
  | cons h1 hv => cases hv with
    | cons h2 hv => cases hv; cases h1; cases h2
                    by_cases hsm : s.size * c ≤ 140737488355328
                    · have := Any.strings_Repeat Try.laysRepeat repExtra s c w (by omega) hsm
                      rw [repNum] at this
                      exact this
                    · obtain ⟨d⟩ := s
                      have h32 : d = #[32] ∧ (c : Int) ≤ 281474976710656 := hc.2.2.resolve_left (by rw [Int.toNat_natCast]; exact hsm)
                      obtain ⟨rfl, hle⟩ := h32
                      have h1 : (⟨#[32]⟩ : ByteArray).size = 1 := rfl
                      rw [h1, Nat.one_mul] at hsm
                      have := repeat_big Try.laysRepeat repExtra c w (by omega) (by omega)
                      rw [repNum] at this
                      have e : repB ⟨#[32]⟩ c = ⟨(List.replicate c (32 : UInt8)).toArray⟩ := by
                        unfold repB
                        rw [← repeatL_one32]
                      rw [e]
                      exact this
/-- The word of an error. -/
def repWord (e : Int) : Option ByteArray := if True then some (wordB e) else none
theorem repWord_ok {e : Int} {r : ByteArray} (h : repWord e = some r) : Fn Try.prog 86 [.i .i64 e] (.d (.s r)) := by
  obtain ⟨hc, h⟩ := ite_n h
  cases h
  exact word_fn e
end Go.FL
/-
  GP: the report.
-/
namespace Go.FL
open Go Go.Proofs

def report_width_l0 (a0 : ByteArray) : Nat → Int → Nat → Option (Int)
  | 0, _, _ => none
  | k + 1, s1, s2 => (if s2 < ByteArray.size a0 then (report_width_l0 a0 k (w64 (s1 + 1)) (rnext a0 s2)) else (some (s1)))
def report_width (a0 : ByteArray) : Option (Int) := (report_width_l0 a0 FUEL 0 0)
theorem report_width_ok {a0 : ByteArray} {r : Int} (h : report_width a0 = some r) :
    Fn Try.prog 71 [.s a0] (.d (.i .i64 r)) := by
  unfold report_width at h
  refine Fn.of (rs := [.tmp 2]) (nt := 11) Try.func71 rfl rfl rfl (by simp) rfl ?_
  refine .seq ?_
  refine .region ?_
  refine asd ?_
  refine rn ?_
  refine .gh (Gh.keep [0, 2] rfl) ?_
  refine .seq ?_
  refine .region ?_
  refine asd ?_
  refine rn ?_
  refine .gh (Gh.keep [0, 2, 3] rfl) ?_
  refine .seq ?_
  refine .seq ?_
  refine .region ?_
  refine vk (vmvd) ?_
  refine vk (vrng st) ?_
  refine rn ?_
  refine .gh (Gh.keep [2, 3, 5] rfl) ?_
  refine .block ?_
  refine .loop (.gh (Gh.keep [2, 3, 5] rfl) ?_)
  refine AL.ind (σ := Nat × Int × Nat) (m := fun p => p.1) (e := fun p => [(2, .d (.i .i64 0)), (3, .d (.i .i64 p.2.1)), (5, .it a0 p.2.2)]) (h := fun p => []) (I := fun p => report_width_l0 a0 p.1 p.2.1 p.2.2 = some r) ?_ (FUEL, 0, 0) h
  rintro ⟨k, s1, s2⟩ h ih
  dsimp only at h ih ⊢
  rcases k with _ | k
  · rw [report_width_l0] at h; cases h
  rw [report_width_l0] at h
  refine .seq ?_
  refine .region ?_
  by_cases hc : s2 < ByteArray.size a0
  · replace h := ite_t hc h
    refine nxt ?_ hc
    refine vk (vex) ?_
    refine rn ?_
    refine .gh (Gh.keep [2, 3, 5, 7] rfl) ?_
    refine .seq ?_
    refine cndt ?_
    refine .skip ?_
    show AW _ _ _ _ _ _
    refine .block ?_
    refine .region ?_
    refine vk (vmvd) ?_
    refine vk (vbi) ?_
    refine asd ?_
    refine .nil ?_
    refine AL.gh (Gh.keep [2, 3, 5] rfl) ?_
    exact ih (k, (w64 (s1 + 1)), (rnext a0 s2)) h (Nat.lt_succ_self _)
  replace h := ite_f hc h
  refine nxe ?_ hc
  refine vk (vex) ?_
  refine rn ?_
  refine .gh (Gh.keep [2, 3, 5, 7] rfl) ?_
  refine .seq ?_
  refine cndf ?_
  refine .exit ?_
  show AW _ _ _ _ _ _
  refine .seq ?_
  refine .region ?_
  refine vk (vmvd) ?_
  refine asd ?_
  refine rn ?_
  refine .gh (Gh.keep [2] rfl) ?_
  refine .ret ?_
  cases h
  exact ⟨rfl, rfl⟩

def report_number (a0 : Int) : Option (ByteArray) := ((ratOfInt a0).bind fun x1 => ((rat_Print x1).bind fun x2 => (some (x2))))
theorem report_number_ok {a0 : Int} {r : ByteArray} (h : report_number a0 = some r) :
    Fn Try.prog 73 [.i .i64 a0] (.d (.s r)) := by
  unfold report_number at h
  refine Fn.of (rs := [.tmp 2]) (nt := 6) Try.func73 rfl rfl rfl (by simp) rfl ?_
  refine .seq ?_
  refine .region ?_
  refine asd ?_
  refine rn ?_
  refine .gh (Gh.keep [0, 2] rfl) ?_
  refine .seq ?_
  refine .region ?_
  refine vk (vmvd) ?_
  obtain ⟨x1, hx1, h⟩ := bnd h
  refine vk (vcl0 (ratOfInt_ok hx1) Try.call64) ?_
  obtain ⟨x2, hx2, h⟩ := bnd h
  refine vk (vcl0 (rat_Print_ok hx2) Try.call110) ?_
  refine asd ?_
  refine rn ?_
  refine .gh (Gh.keep [2] rfl) ?_
  refine .ret ?_
  cases h
  exact ⟨rfl, rfl⟩

def report_Text (a0 : Int) : Option (ByteArray) := ((repWord a0).bind fun x1 => (if a0 = 0 then (some ((⟨#[]⟩ : ByteArray))) else (if a0 = 9 then (some ((⟨#[73, 78, 84, 69, 82, 82, 85, 80, 84]⟩ : ByteArray))) else (if x1 = (⟨#[]⟩ : ByteArray) then ((report_number a0).bind fun x2 => ((sap? (⟨#[69, 82, 82, 79, 82, 32]⟩ : ByteArray) x2).bind fun x3 => (some (x3)))) else ((sap? x1 (⟨#[32, 69, 82, 82, 79, 82]⟩ : ByteArray)).bind fun x4 => (some (x4)))))))
theorem report_Text_ok {a0 : Int} {r : ByteArray} (h : report_Text a0 = some r) :
    Fn Try.prog 44 [.i .i64 a0] (.d (.s r)) := by
  unfold report_Text at h
  refine Fn.of (rs := [.tmp 2]) (nt := 20) Try.func44 rfl rfl rfl (by simp) rfl ?_
  refine .seq ?_
  refine .region ?_
  refine asd ?_
  refine rn ?_
  refine .gh (Gh.keep [0, 2] rfl) ?_
  refine .seq ?_
  refine .seq ?_
  refine .region ?_
  refine vk (vmvd) ?_
  obtain ⟨x1, hx1, h⟩ := bnd h
  refine vk (vcl0 (repWord_ok hx1) Try.call86) ?_
  refine asd ?_
  refine rn ?_
  refine .gh (Gh.keep [0, 2, 3] rfl) ?_
  refine .block ?_
  refine .seq ?_
  refine .region ?_
  refine vk (vmvd) ?_
  refine vk (vbi) ?_
  refine asd ?_
  refine rn ?_
  refine .gh (Gh.keep [0, 2, 3, 6] rfl) ?_
  by_cases hc : a0 = 0
  · replace h := ite_t hc h
    refine cnt (decide_eq_true hc) ?_
    refine .seq ?_
    refine .region ?_
    refine asd ?_
    refine rn ?_
    refine .gh (Gh.keep [0, 2] rfl) ?_
    refine .ret ?_
    cases h
    exact ⟨rfl, rfl⟩
  replace h := ite_f hc h
  refine cnf (decide_eq_false hc) ?_
  refine .seq ?_
  refine .region ?_
  refine vk (vmvd) ?_
  refine vk (vbi) ?_
  refine asd ?_
  refine rn ?_
  refine .gh (Gh.keep [0, 2, 3, 9] rfl) ?_
  by_cases hc : a0 = 9
  · replace h := ite_t hc h
    refine cnt (decide_eq_true hc) ?_
    refine .seq ?_
    refine .region ?_
    refine asd ?_
    refine rn ?_
    refine .gh (Gh.keep [0, 2] rfl) ?_
    refine .ret ?_
    cases h
    exact ⟨rfl, rfl⟩
  replace h := ite_f hc h
  refine cnf (decide_eq_false hc) ?_
  refine .seq ?_
  refine .region ?_
  refine vk (vmvd) ?_
  refine vk (vsq (.inr rfl)) ?_
  refine asd ?_
  refine rn ?_
  refine .gh (Gh.keep [0, 2, 3, 12] rfl) ?_
  by_cases hc : x1 = (⟨#[]⟩ : ByteArray)
  · replace h := ite_t hc h
    refine cnf (ntf (decide_eq_true hc)) ?_
    refine .skip ?_
    show AW _ _ _ _ _ _
    refine .seq ?_
    refine .region ?_
    refine vk (vmvd) ?_
    obtain ⟨x2, hx2, h⟩ := bnd h
    refine vk (vcl0 (report_number_ok hx2) Try.call73) ?_
    obtain ⟨x3, hx3, h⟩ := bnd h
    refine vk (vsa hx3) ?_
    refine asd ?_
    refine rn ?_
    refine .gh (Gh.keep [2] rfl) ?_
    refine .ret ?_
    cases h
    exact ⟨rfl, rfl⟩
  replace h := ite_f hc h
  refine cnt (ntt (decide_eq_false hc)) ?_
  refine .seq ?_
  refine .region ?_
  refine vk (vmvd) ?_
  obtain ⟨x4, hx4, h⟩ := bnd h
  refine vk (vsa hx4) ?_
  refine asd ?_
  refine rn ?_
  refine .gh (Gh.keep [0, 2] rfl) ?_
  refine .ret ?_
  cases h
  exact ⟨rfl, rfl⟩

def report_Prefix (a0 : WT) : Option (ByteArray) := (if a0.1 = (⟨#[]⟩ : ByteArray) then ((sRepeat (⟨#[32]⟩ : ByteArray) 6).bind fun x1 => (some (x1))) else ((sap? a0.1 (⟨#[91]⟩ : ByteArray)).bind fun x2 => ((report_number a0.2.1).bind fun x3 => ((sap? x2 x3).bind fun x4 => ((sap? x4 (⟨#[93, 32]⟩ : ByteArray)).bind fun x5 => (some (x5)))))))
theorem report_Prefix_ok {a0 : WT} {r : ByteArray} (h : report_Prefix a0 = some r) :
    Fn Try.prog 30 [.ag [.s a0.1, .i .i64 a0.2.1, .s a0.2.2.1, .i .i64 a0.2.2.2]] (.d (.s r)) := by
  unfold report_Prefix at h
  refine Fn.of (rs := [.tmp 2]) (nt := 15) Try.func30 rfl rfl rfl (by simp) rfl ?_
  refine .seq ?_
  refine .region ?_
  refine vk (vbx) ?_
  refine asd ?_
  refine rn ?_
  refine .gh (Gh.keep [1, 2] rfl) ?_
  refine .seq ?_
  refine .seq ?_
  refine .region ?_
  refine vk (vfa gF_W_0) ?_
  refine vk (vldp ga_string) ?_
  refine vk (vsq (.inl rfl)) ?_
  refine rn ?_
  refine .gh (Gh.keep [1, 2, 5] rfl) ?_
  by_cases hc : a0.1 = (⟨#[]⟩ : ByteArray)
  · replace h := ite_t hc h
    refine cnt (decide_eq_true hc) ?_
    refine .seq ?_
    refine .region ?_
    obtain ⟨x1, hx1, h⟩ := bnd h
    refine vk (vcl0 (sRepeat_ok hx1) Try.call72) ?_
    refine asd ?_
    refine rn ?_
    refine .gh (Gh.keep [1, 2] rfl) ?_
    refine .ret ?_
    cases h
    exact ⟨rfl, rfl⟩
  replace h := ite_f hc h
  refine cnf (decide_eq_false hc) ?_
  refine .skip ?_
  show AW _ _ _ _ _ _
  refine .seq ?_
  refine .drawn 8 mixed (by kernel_rfl) ?_
  refine dv (vfa gF_W_0) ?_
  refine dv (vldp ga_string) ?_
  obtain ⟨x2, hx2, h⟩ := bnd h
  refine dv (vsa hx2) ?_
  refine dv (vfa gF_W_1) ?_
  refine dv (vldp ga_int) ?_
  obtain ⟨x3, hx3, h⟩ := bnd h
  refine dv (vcl0 (report_number_ok hx3) Try.call73) ?_
  obtain ⟨x4, hx4, h⟩ := bnd h
  refine dv (vsa hx4) ?_
  obtain ⟨x5, hx5, h⟩ := bnd h
  refine dv (vsa hx5) ?_
  refine dz ?_
  refine asd ?_
  refine rn ?_
  refine .gh (Gh.keep [2] rfl) ?_
  refine .ret ?_
  cases h
  exact ⟨rfl, rfl⟩

def report_Lines (a0 : Int) (a1 : WT) : Option ((List ByteArray)) := (if a0 = 0 then (some ([])) else ((report_width a1.2.2.1).bind fun x1 => ((report_Prefix a1).bind fun x2 => ((report_Text a0).bind fun x3 => ((sap? x2 a1.2.2.1).bind fun x4 => ((report_width x2).bind fun x5 => ((sRepeat (⟨#[32]⟩ : ByteArray) (w64 (x5 + (if (if x1 < a1.2.2.2 then x1 else a1.2.2.2) < 0 then 0 else (if x1 < a1.2.2.2 then x1 else a1.2.2.2))))).bind fun x6 => ((sap? x6 (⟨#[94]⟩ : ByteArray)).bind fun x7 => (some ([x3, x4, x7]))))))))))
theorem report_Lines_ok {a0 : Int} {a1 : WT} {r : (List ByteArray)} (h : report_Lines a0 a1 = some r) :
    Fn Try.prog 27 [.i .i64 a0, .ag [.s a1.1, .i .i64 a1.2.1, .s a1.2.2.1, .i .i64 a1.2.2.2]] (.d (.sl (Ss r))) := by
  unfold report_Lines at h
  refine Fn.of (rs := [.tmp 4]) (nt := 31) Try.func27 rfl rfl rfl (by simp) rfl ?_
  refine .seq ?_
  refine .region ?_
  refine vk (vbx) ?_
  refine asn ?_
  refine rn ?_
  refine .gh (Gh.keep [0, 3, 4] rfl) ?_
  refine .seq ?_
  refine .seq ?_
  refine .region ?_
  refine vk (vmvd) ?_
  refine vk (vbi) ?_
  refine rn ?_
  refine .gh (Gh.keep [0, 3, 4, 8] rfl) ?_
  by_cases hc : a0 = 0
  · replace h := ite_t hc h
    refine cnt (decide_eq_true hc) ?_
    refine .seq ?_
    refine .region ?_
    refine asn ?_
    refine rn ?_
    refine .gh (Gh.keep [0, 3, 4] rfl) ?_
    refine .gh (Gh.nlD (t := 4) rfl) ?_
    refine .ret ?_
    cases h
    exact ⟨rfl, rfl⟩
  replace h := ite_f hc h
  refine cnf (decide_eq_false hc) ?_
  refine .skip ?_
  show AW _ _ _ _ _ _
  refine .seq ?_
  refine .drawn 7 mixed (by kernel_rfl) ?_
  refine dv (vfa gF_W_3) ?_
  refine dv (vldp ga_int) ?_
  refine dv (vfa gF_W_2) ?_
  refine dv (vldp ga_string) ?_
  obtain ⟨x1, hx1, h⟩ := bnd h
  refine dv (vcl0 (report_width_ok hx1) Try.call71) ?_
  refine dv (vmn) ?_
  refine dv (vmx) ?_
  refine dz ?_
  refine asd ?_
  refine rn ?_
  refine .gh (Gh.keep [0, 3, 4, 5] rfl) ?_
  refine .seq ?_
  refine .region ?_
  refine vk (vlda gA_W gS_W) ?_
  obtain ⟨x2, hx2, h⟩ := bnd h
  refine vk (vcl0 (report_Prefix_ok hx2) Try.call30) ?_
  refine asd ?_
  refine rn ?_
  refine .gh (Gh.keep [0, 3, 4, 5, 6] rfl) ?_
  refine .seq ?_
  refine .drawn 13 mixed (by kernel_rfl) ?_
  refine dv (vmvd) ?_
  obtain ⟨x3, hx3, h⟩ := bnd h
  refine dv (vcl0 (report_Text_ok hx3) Try.call44) ?_
  refine dv (vmvd) ?_
  refine dv (vfa gF_W_2) ?_
  refine dv (vldp ga_string) ?_
  obtain ⟨x4, hx4, h⟩ := bnd h
  refine dv (vsa hx4) ?_
  refine dv (vmvd) ?_
  obtain ⟨x5, hx5, h⟩ := bnd h
  refine dv (vcl0 (report_width_ok hx5) Try.call71) ?_
  refine dv (vmvd) ?_
  refine dv (vbi) ?_
  obtain ⟨x6, hx6, h⟩ := bnd h
  refine dv (vcl0 (sRepeat_ok hx6) Try.call72) ?_
  obtain ⟨x7, hx7, h⟩ := bnd h
  refine dv (vsa hx7) ?_
  refine dv ((vbsl (Ss_flat [x3, x4, x7]) ge_Ss).deep) ?_
  refine dz ?_
  refine asd ?_
  refine rn ?_
  refine .gh (Gh.keep [4] rfl) ?_
  refine .ret ?_
  cases h
  exact ⟨rfl, rfl⟩

end Go.FL
/-
  GP: glyphlaw14: live, where.
-/
namespace Go.FL
open Go Go.Proofs

def law14_live : Option (Bool) := ((report_Lines 5 (ByteArray.empty, 0, (⟨#[49, 32, 50, 43, 49, 32, 50, 32, 51]⟩ : ByteArray), 3)).bind fun x1 => (Option.bind ((if ((List.length x1 : Nat) : Int) = 3 then ((rd? x1 0).bind fun x3 => (if x3 = (⟨#[76, 69, 78, 71, 84, 72, 32, 69, 82, 82, 79, 82]⟩ : ByteArray) then ((rd? x1 1).bind fun x4 => (if x4 = (⟨#[32, 32, 32, 32, 32, 32, 49, 32, 50, 43, 49, 32, 50, 32, 51]⟩ : ByteArray) then ((rd? x1 2).bind fun x5 => (some (decide (x5 = (⟨#[32, 32, 32, 32, 32, 32, 32, 32, 32, 94]⟩ : ByteArray))))) else (some false))) else (some false))) else (some false)) : Option (Bool)) fun (z2 : Bool) => (some (z2))))
theorem law14_live_ok {r : Bool} (h : law14_live = some r) :
    Fn Try.prog 25 [] (.d (.b r)) := by
  unfold law14_live at h
  refine Fn.of (rs := [.tmp 0]) (nt := 25) Try.func25 rfl rfl rfl (by simp) rfl ?_
  refine .seq ?_
  refine .region ?_
  refine asd ?_
  refine rn ?_
  refine .gh (Gh.keep [0] rfl) ?_
  refine .seq ?_
  refine .region ?_
  refine vk (vbd gP_W gI_W gZ_W) ?_
  obtain ⟨x1, hx1, h⟩ := bnd h
  refine vk (vcl0 (report_Lines_ok hx1) Try.call27) ?_
  refine asd ?_
  refine rn ?_
  refine .gh (Gh.keep [0, 1] rfl) ?_
  refine .seq ?_
  obtain ⟨z2, hz, h⟩ := bnd h
  refine AW.mr (σ := Unit) (fun _ => True) (fun _ => [(0, .d (.b z2))]) (fun _ => []) ?_ ?_
  · skip
    refine .region ?_
    refine vk (vmvd) ?_
    refine vk (vlnE (Ss_length _) (Ss_sz _) gu_Ss) ?_
    refine vk (vbi) ?_
    by_cases hc : ((List.length x1 : Nat) : Int) = 3
    · replace hz := ite_t hc hz
      have hb0 : (decide (((List.length x1 : Nat) : Int) = 3)) = true := (decide_eq_true hc)
      refine vk (VOK.lit (vmvd) hb0) ?_
      refine vk (vmvd) ?_
      obtain ⟨x3, hx3, hz⟩ := bnd hz
      obtain ⟨nx3, hnx3, hxx3⟩ := rd_some hx3
      refine vk (vix nx3 hnx3 (Ss_at hxx3) rfl gs_Ss) ?_
      refine vk (vldp ga_string) ?_
      refine vk (vsq (.inl rfl)) ?_
      refine vk (vpkd) ?_
      by_cases hc : x3 = (⟨#[76, 69, 78, 71, 84, 72, 32, 69, 82, 82, 79, 82]⟩ : ByteArray)
      · replace hz := ite_t hc hz
        have hb1 : (decide (x3 = (⟨#[76, 69, 78, 71, 84, 72, 32, 69, 82, 82, 79, 82]⟩ : ByteArray))) = true := (decide_eq_true hc)
        refine vk (VOK.lit (vmvd) hb1) ?_
        refine vk (vmvd) ?_
        obtain ⟨x4, hx4, hz⟩ := bnd hz
        obtain ⟨nx4, hnx4, hxx4⟩ := rd_some hx4
        refine vk (vix nx4 hnx4 (Ss_at hxx4) rfl gs_Ss) ?_
        refine vk (vldp ga_string) ?_
        refine vk (vsq (.inl rfl)) ?_
        refine vk (vpkd) ?_
        by_cases hc : x4 = (⟨#[32, 32, 32, 32, 32, 32, 49, 32, 50, 43, 49, 32, 50, 32, 51]⟩ : ByteArray)
        · replace hz := ite_t hc hz
          have hb2 : (decide (x4 = (⟨#[32, 32, 32, 32, 32, 32, 49, 32, 50, 43, 49, 32, 50, 32, 51]⟩ : ByteArray))) = true := (decide_eq_true hc)
          refine vk (VOK.lit (vmvd) hb2) ?_
          refine vk (vmvd) ?_
          obtain ⟨x5, hx5, hz⟩ := bnd hz
          obtain ⟨nx5, hnx5, hxx5⟩ := rd_some hx5
          refine vk (vix nx5 hnx5 (Ss_at hxx5) rfl gs_Ss) ?_
          refine vk (vldp ga_string) ?_
          refine vk (vsq (.inl rfl)) ?_
          refine vk (vpkd) ?_
          refine asd ?_
          refine RL.gh (Gh.keep [0] rfl) ?_
          refine .nil ?_
          cases hz
          exact jr () trivial
        replace hz := ite_f hc hz
        have hb2 : (decide (x4 = (⟨#[32, 32, 32, 32, 32, 32, 49, 32, 50, 43, 49, 32, 50, 32, 51]⟩ : ByteArray))) = false := (decide_eq_false hc)
        refine vk (VOK.lit (vmvd) hb2) ?_
        refine gf ?_
        refine gf ?_
        refine gf ?_
        refine gf ?_
        refine vk (vpkd) ?_
        refine asd ?_
        refine RL.gh (Gh.keep [0] rfl) ?_
        refine .nil ?_
        cases hz
        exact jr () trivial
      replace hz := ite_f hc hz
      have hb1 : (decide (x3 = (⟨#[76, 69, 78, 71, 84, 72, 32, 69, 82, 82, 79, 82]⟩ : ByteArray))) = false := (decide_eq_false hc)
      refine vk (VOK.lit (vmvd) hb1) ?_
      refine gf ?_
      refine gf ?_
      refine gf ?_
      refine gf ?_
      refine vk (vpkd) ?_
      refine vk (vmvd) ?_
      refine gf ?_
      refine gf ?_
      refine gf ?_
      refine gf ?_
      refine vk (vpkd) ?_
      refine asd ?_
      refine RL.gh (Gh.keep [0] rfl) ?_
      refine .nil ?_
      cases hz
      exact jr () trivial
    replace hz := ite_f hc hz
    have hb0 : (decide (((List.length x1 : Nat) : Int) = 3)) = false := (decide_eq_false hc)
    refine vk (VOK.lit (vmvd) hb0) ?_
    refine gf ?_
    refine gf ?_
    refine gf ?_
    refine gf ?_
    refine vk (vpkd) ?_
    refine vk (vmvd) ?_
    refine gf ?_
    refine gf ?_
    refine gf ?_
    refine gf ?_
    refine vk (vpkd) ?_
    refine vk (vmvd) ?_
    refine gf ?_
    refine gf ?_
    refine gf ?_
    refine gf ?_
    refine vk (vpkd) ?_
    refine asd ?_
    refine RL.gh (Gh.keep [0] rfl) ?_
    refine .nil ?_
    cases hz
    exact jr () trivial
  rintro _ _
  refine .ret ?_
  cases h
  exact ⟨rfl, rfl⟩

def law14_where (a0 : WT) : Option (WT) := (some (a0))
theorem law14_where_ok {a0 : WT} {r : WT} (h : law14_where a0 = some r) :
    Fn Try.prog 29 [.ag [.s a0.1, .i .i64 a0.2.1, .s a0.2.2.1, .i .i64 a0.2.2.2]] (.d (.ag [.s r.1, .i .i64 r.2.1, .s r.2.2.1, .i .i64 r.2.2.2])) := by
  unfold law14_where at h
  refine Fn.ofC (rs := [.cell 2 55]) (nt := 12) Try.func29 rfl rfl rfl (by simp) rfl ?_
  refine .seq ?_
  refine .region ?_
  refine vk (vbx) ?_
  refine vk (van (zero_of gI_V) gZ_V) ?_
  refine rn ?_
  refine .gh (Gh.keep [1, 2] rfl) ?_
  refine .seq ?_
  refine .region ?_
  refine vk (vfa gF_W_0) ?_
  refine vk (vldp ga_string) ?_
  refine vk (vfa gF_W_1) ?_
  refine vk (vldp ga_int) ?_
  refine vk (vfa gF_W_2) ?_
  refine vk (vldp ga_string) ?_
  refine vk (vfa gF_W_3) ?_
  refine vk (vldp ga_int) ?_
  refine vk (vbd gP_V gI_V gZ_V) ?_
  refine stn ?_ gS_V (by decide)
  refine rn ?_
  refine .gh (Gh.keep [2] rfl) ?_
  refine .ret ?_
  cases h
  exact ⟨_, ⟨.inr rfl, gA_V, gS_V, (by decide : (0 : Nat) < 4)⟩, rfl⟩
end Go.FL
/-
  GP: the report, the reference.
-/
namespace Go.FL
open Go Go.Proofs

def ref08_Width_l0 (a0 : ByteArray) : Nat → Int → Nat → Option (Int)
  | 0, _, _ => none
  | k + 1, s1, s2 => (if s2 < ByteArray.size a0 then (ref08_Width_l0 a0 k (w64 (s1 + 1)) (rnext a0 s2)) else (some (s1)))
def ref08_Width (a0 : ByteArray) : Option (Int) := (ref08_Width_l0 a0 FUEL 0 0)
theorem ref08_Width_ok {a0 : ByteArray} {r : Int} (h : ref08_Width a0 = some r) :
    Fn Try.prog 32 [.s a0] (.d (.i .i64 r)) := by
  unfold ref08_Width at h
  refine Fn.of (rs := [.tmp 2]) (nt := 11) Try.func32 rfl rfl rfl (by simp) rfl ?_
  refine .seq ?_
  refine .region ?_
  refine asd ?_
  refine rn ?_
  refine .gh (Gh.keep [0, 2] rfl) ?_
  refine .seq ?_
  refine .region ?_
  refine asd ?_
  refine rn ?_
  refine .gh (Gh.keep [0, 2, 3] rfl) ?_
  refine .seq ?_
  refine .seq ?_
  refine .region ?_
  refine vk (vmvd) ?_
  refine vk (vrng st) ?_
  refine rn ?_
  refine .gh (Gh.keep [2, 3, 5] rfl) ?_
  refine .block ?_
  refine .loop (.gh (Gh.keep [2, 3, 5] rfl) ?_)
  refine AL.ind (σ := Nat × Int × Nat) (m := fun p => p.1) (e := fun p => [(2, .d (.i .i64 0)), (3, .d (.i .i64 p.2.1)), (5, .it a0 p.2.2)]) (h := fun p => []) (I := fun p => ref08_Width_l0 a0 p.1 p.2.1 p.2.2 = some r) ?_ (FUEL, 0, 0) h
  rintro ⟨k, s1, s2⟩ h ih
  dsimp only at h ih ⊢
  rcases k with _ | k
  · rw [ref08_Width_l0] at h; cases h
  rw [ref08_Width_l0] at h
  refine .seq ?_
  refine .region ?_
  by_cases hc : s2 < ByteArray.size a0
  · replace h := ite_t hc h
    refine nxt ?_ hc
    refine vk (vex) ?_
    refine rn ?_
    refine .gh (Gh.keep [2, 3, 5, 7] rfl) ?_
    refine .seq ?_
    refine cndt ?_
    refine .skip ?_
    show AW _ _ _ _ _ _
    refine .block ?_
    refine .region ?_
    refine vk (vmvd) ?_
    refine vk (vbi) ?_
    refine asd ?_
    refine .nil ?_
    refine AL.gh (Gh.keep [2, 3, 5] rfl) ?_
    exact ih (k, (w64 (s1 + 1)), (rnext a0 s2)) h (Nat.lt_succ_self _)
  replace h := ite_f hc h
  refine nxe ?_ hc
  refine vk (vex) ?_
  refine rn ?_
  refine .gh (Gh.keep [2, 3, 5, 7] rfl) ?_
  refine .seq ?_
  refine cndf ?_
  refine .exit ?_
  show AW _ _ _ _ _ _
  refine .seq ?_
  refine .region ?_
  refine vk (vmvd) ?_
  refine asd ?_
  refine rn ?_
  refine .gh (Gh.keep [2] rfl) ?_
  refine .ret ?_
  cases h
  exact ⟨rfl, rfl⟩

def ref14_number (a0 : Int) : Option (ByteArray) := ((ref02_OfInt a0).bind fun x1 => ((ref02_Print x1).bind fun x2 => (some (x2))))
theorem ref14_number_ok {a0 : Int} {r : ByteArray} (h : ref14_number a0 = some r) :
    Fn Try.prog 74 [.i .i64 a0] (.d (.s r)) := by
  unfold ref14_number at h
  refine Fn.of (rs := [.tmp 2]) (nt := 6) Try.func74 rfl rfl rfl (by simp) rfl ?_
  refine .seq ?_
  refine .region ?_
  refine asd ?_
  refine rn ?_
  refine .gh (Gh.keep [0, 2] rfl) ?_
  refine .seq ?_
  refine .region ?_
  refine vk (vmvd) ?_
  obtain ⟨x1, hx1, h⟩ := bnd h
  refine vk (vcl0 (ref02_OfInt_ok hx1) Try.call79) ?_
  obtain ⟨x2, hx2, h⟩ := bnd h
  refine vk (vcl0 (ref02_Print_ok hx2) Try.call111) ?_
  refine asd ?_
  refine rn ?_
  refine .gh (Gh.keep [2] rfl) ?_
  refine .ret ?_
  cases h
  exact ⟨rfl, rfl⟩

def ref14_words : Option ((List ByteArray)) := (some ([(⟨#[]⟩ : ByteArray), (⟨#[83, 89, 78, 84, 65, 88, 32, 69, 82, 82, 79, 82]⟩ : ByteArray), (⟨#[86, 65, 76, 85, 69, 32, 69, 82, 82, 79, 82]⟩ : ByteArray), (⟨#[68, 79, 77, 65, 73, 78, 32, 69, 82, 82, 79, 82]⟩ : ByteArray), (⟨#[82, 65, 78, 75, 32, 69, 82, 82, 79, 82]⟩ : ByteArray), (⟨#[76, 69, 78, 71, 84, 72, 32, 69, 82, 82, 79, 82]⟩ : ByteArray), (⟨#[73, 78, 68, 69, 88, 32, 69, 82, 82, 79, 82]⟩ : ByteArray), (⟨#[65, 88, 73, 83, 32, 69, 82, 82, 79, 82]⟩ : ByteArray), (⟨#[76, 73, 77, 73, 84, 32, 69, 82, 82, 79, 82]⟩ : ByteArray), (⟨#[73, 78, 84, 69, 82, 82, 85, 80, 84]⟩ : ByteArray)]))
theorem ref14_words_ok {r : (List ByteArray)} (h : ref14_words = some r) :
    Fn Try.prog 85 [] (.d (.sl (Ss r))) := by
  unfold ref14_words at h
  refine Fn.of (rs := [.tmp 0]) (nt := 2) Try.func85 rfl rfl rfl (by simp) rfl ?_
  refine .seq ?_
  refine .region ?_
  refine asn ?_
  refine rn ?_
  refine .gh (Gh.keep [0] rfl) ?_
  refine .seq ?_
  refine .region ?_
  refine vk ((vbsl (Ss_flat [(⟨#[]⟩ : ByteArray), (⟨#[83, 89, 78, 84, 65, 88, 32, 69, 82, 82, 79, 82]⟩ : ByteArray), (⟨#[86, 65, 76, 85, 69, 32, 69, 82, 82, 79, 82]⟩ : ByteArray), (⟨#[68, 79, 77, 65, 73, 78, 32, 69, 82, 82, 79, 82]⟩ : ByteArray), (⟨#[82, 65, 78, 75, 32, 69, 82, 82, 79, 82]⟩ : ByteArray), (⟨#[76, 69, 78, 71, 84, 72, 32, 69, 82, 82, 79, 82]⟩ : ByteArray), (⟨#[73, 78, 68, 69, 88, 32, 69, 82, 82, 79, 82]⟩ : ByteArray), (⟨#[65, 88, 73, 83, 32, 69, 82, 82, 79, 82]⟩ : ByteArray), (⟨#[76, 73, 77, 73, 84, 32, 69, 82, 82, 79, 82]⟩ : ByteArray), (⟨#[73, 78, 84, 69, 82, 82, 85, 80, 84]⟩ : ByteArray)]) ge_Ss).deep) ?_
  refine asd ?_
  refine rn ?_
  refine .gh (Gh.keep [0] rfl) ?_
  refine .ret ?_
  cases h
  exact ⟨rfl, rfl⟩

def ref14_Text (a0 : Int) : Option (ByteArray) := (Option.bind ((if 0 ≤ a0 then (ref14_words.bind fun x2 => (some (decide (a0 < ((List.length x2 : Nat) : Int))))) else (some false)) : Option (Bool)) fun (z1 : Bool) => (if z1 = true then (ref14_words.bind fun x3 => ((rd? x3 a0).bind fun x4 => (some (x4)))) else (if a0 = 28 then (some ((⟨#[68, 69, 70, 78, 32, 69, 82, 82, 79, 82]⟩ : ByteArray))) else ((ref14_number a0).bind fun x5 => ((sap? (⟨#[69, 82, 82, 79, 82, 32]⟩ : ByteArray) x5).bind fun x6 => (some (x6)))))))
theorem ref14_Text_ok {a0 : Int} {r : ByteArray} (h : ref14_Text a0 = some r) :
    Fn Try.prog 45 [.i .i64 a0] (.d (.s r)) := by
  unfold ref14_Text at h
  refine Fn.of (rs := [.tmp 2]) (nt := 20) Try.func45 rfl rfl rfl (by simp) rfl ?_
  refine .seq ?_
  refine .region ?_
  refine asd ?_
  refine rn ?_
  refine .gh (Gh.keep [0, 2] rfl) ?_
  refine .seq ?_
  refine .seq ?_
  obtain ⟨z1, hz, h⟩ := bnd h
  refine AW.mr (σ := Unit) (fun _ => True) (fun _ => [(0, .d (.i .i64 a0)), (2, .d (.s (⟨#[]⟩ : ByteArray))), (10, .d (.b z1))]) (fun _ => []) ?_ ?_
  · skip
    refine .region ?_
    refine vk (vmvd) ?_
    refine vk (vbi) ?_
    by_cases hc : 0 ≤ a0
    · replace hz := ite_t hc hz
      have hb0 : (decide (0 ≤ a0)) = true := (decide_eq_true hc)
      refine vk (VOK.lit (vmvd) hb0) ?_
      refine vk (vmvd) ?_
      obtain ⟨x2, hx2, hz⟩ := bnd hz
      refine vk (vcl0 (ref14_words_ok hx2) Try.call85) ?_
      refine vk (vlnE (Ss_length _) (Ss_sz _) gu_Ss) ?_
      refine vk (vbi) ?_
      refine vk (vpkd) ?_
      refine RL.gh (Gh.keep [0, 2, 10] rfl) ?_
      refine .nil ?_
      cases hz
      exact jr () trivial
    replace hz := ite_f hc hz
    have hb0 : (decide (0 ≤ a0)) = false := (decide_eq_false hc)
    refine vk (VOK.lit (vmvd) hb0) ?_
    refine gf ?_
    refine gf ?_
    refine gf ?_
    refine gf ?_
    refine vk (vpkd) ?_
    refine RL.gh (Gh.keep [0, 2, 10] rfl) ?_
    refine .nil ?_
    cases hz
    exact jr () trivial
  rintro _ _
  by_cases hc : z1 = true
  · replace h := ite_t hc h
    refine cnt hc ?_
    refine .seq ?_
    refine .region ?_
    obtain ⟨x3, hx3, h⟩ := bnd h
    refine vk (vcl0 (ref14_words_ok hx3) Try.call85) ?_
    refine vk (vmvd) ?_
    obtain ⟨x4, hx4, h⟩ := bnd h
    obtain ⟨nx4, hnx4, hxx4⟩ := rd_some hx4
    refine vk (vix nx4 hnx4 (Ss_at hxx4) rfl gs_Ss) ?_
    refine vk (vldp ga_string) ?_
    refine asd ?_
    refine rn ?_
    refine .gh (Gh.keep [0, 2] rfl) ?_
    refine .ret ?_
    cases h
    exact ⟨rfl, rfl⟩
  replace h := ite_f hc h
  refine cnf (bf hc) ?_
  refine .skip ?_
  show AW _ _ _ _ _ _
  refine .seq ?_
  refine .seq ?_
  refine .region ?_
  refine vk (vmvd) ?_
  refine vk (vbi) ?_
  refine rn ?_
  refine .gh (Gh.keep [0, 2, 16] rfl) ?_
  by_cases hc : a0 = 28
  · replace h := ite_t hc h
    refine cnt (decide_eq_true hc) ?_
    refine .seq ?_
    refine .region ?_
    refine asd ?_
    refine rn ?_
    refine .gh (Gh.keep [0, 2] rfl) ?_
    refine .ret ?_
    cases h
    exact ⟨rfl, rfl⟩
  replace h := ite_f hc h
  refine cnf (decide_eq_false hc) ?_
  refine .skip ?_
  show AW _ _ _ _ _ _
  refine .seq ?_
  refine .region ?_
  refine vk (vmvd) ?_
  obtain ⟨x5, hx5, h⟩ := bnd h
  refine vk (vcl0 (ref14_number_ok hx5) Try.call74) ?_
  obtain ⟨x6, hx6, h⟩ := bnd h
  refine vk (vsa hx6) ?_
  refine asd ?_
  refine rn ?_
  refine .gh (Gh.keep [2] rfl) ?_
  refine .ret ?_
  cases h
  exact ⟨rfl, rfl⟩

def ref14_Prefix (a0 : WT) : Option (ByteArray) := (if a0.1 = (⟨#[]⟩ : ByteArray) then (some ((⟨#[32, 32, 32, 32, 32, 32]⟩ : ByteArray))) else ((sap? a0.1 (⟨#[91]⟩ : ByteArray)).bind fun x1 => ((ref14_number a0.2.1).bind fun x2 => ((sap? x1 x2).bind fun x3 => ((sap? x3 (⟨#[93, 32]⟩ : ByteArray)).bind fun x4 => (some (x4)))))))
theorem ref14_Prefix_ok {a0 : WT} {r : ByteArray} (h : ref14_Prefix a0 = some r) :
    Fn Try.prog 31 [.ag [.s a0.1, .i .i64 a0.2.1, .s a0.2.2.1, .i .i64 a0.2.2.2]] (.d (.s r)) := by
  unfold ref14_Prefix at h
  refine Fn.of (rs := [.tmp 2]) (nt := 14) Try.func31 rfl rfl rfl (by simp) rfl ?_
  refine .seq ?_
  refine .region ?_
  refine vk (vbx) ?_
  refine asd ?_
  refine rn ?_
  refine .gh (Gh.keep [1, 2] rfl) ?_
  refine .seq ?_
  refine .seq ?_
  refine .region ?_
  refine vk (vfa gF_V_0) ?_
  refine vk (vldp ga_string) ?_
  refine vk (vsq (.inl rfl)) ?_
  refine rn ?_
  refine .gh (Gh.keep [1, 2, 5] rfl) ?_
  by_cases hc : a0.1 = (⟨#[]⟩ : ByteArray)
  · replace h := ite_t hc h
    refine cnt (decide_eq_true hc) ?_
    refine .seq ?_
    refine .region ?_
    refine asd ?_
    refine rn ?_
    refine .gh (Gh.keep [1, 2] rfl) ?_
    refine .ret ?_
    cases h
    exact ⟨rfl, rfl⟩
  replace h := ite_f hc h
  refine cnf (decide_eq_false hc) ?_
  refine .skip ?_
  show AW _ _ _ _ _ _
  refine .seq ?_
  refine .drawn 8 mixed (by kernel_rfl) ?_
  refine dv (vfa gF_V_0) ?_
  refine dv (vldp ga_string) ?_
  obtain ⟨x1, hx1, h⟩ := bnd h
  refine dv (vsa hx1) ?_
  refine dv (vfa gF_V_1) ?_
  refine dv (vldp ga_int) ?_
  obtain ⟨x2, hx2, h⟩ := bnd h
  refine dv (vcl0 (ref14_number_ok hx2) Try.call74) ?_
  obtain ⟨x3, hx3, h⟩ := bnd h
  refine dv (vsa hx3) ?_
  obtain ⟨x4, hx4, h⟩ := bnd h
  refine dv (vsa hx4) ?_
  refine dz ?_
  refine asd ?_
  refine rn ?_
  refine .gh (Gh.keep [2] rfl) ?_
  refine .ret ?_
  cases h
  exact ⟨rfl, rfl⟩

def ref14_Lines_l0 (a0 : Int) (a1 : WT) : Nat → ByteArray → Int → Option ((List ByteArray))
  | 0, _, _ => none
  | k + 1, s3, s4 => ((ref14_Prefix a1).bind fun x5 => ((ref08_Width x5).bind fun x6 => (if s4 < (w64 (x6 + 0)) then ((sap? s3 (⟨#[32]⟩ : ByteArray)).bind fun x7 => (ref14_Lines_l0 a0 a1 k x7 (w64 (s4 + 1)))) else ((ref14_Text a0).bind fun x8 => ((ref14_Prefix a1).bind fun x9 => ((sap? x9 a1.2.2.1).bind fun x10 => ((sap? s3 (⟨#[94]⟩ : ByteArray)).bind fun x11 => (some ([x8, x10, x11])))))))))
def ref14_Lines_l1 (a0 : Int) (a1 : WT) (x2 : Int) : Nat → ByteArray → Int → Option ((List ByteArray))
  | 0, _, _ => none
  | k + 1, s12, s13 => ((ref14_Prefix a1).bind fun x14 => ((ref08_Width x14).bind fun x15 => (if s13 < (w64 (x15 + x2)) then ((sap? s12 (⟨#[32]⟩ : ByteArray)).bind fun x16 => (ref14_Lines_l1 a0 a1 x2 k x16 (w64 (s13 + 1)))) else ((ref14_Text a0).bind fun x17 => ((ref14_Prefix a1).bind fun x18 => ((sap? x18 a1.2.2.1).bind fun x19 => ((sap? s12 (⟨#[94]⟩ : ByteArray)).bind fun x20 => (some ([x17, x19, x20])))))))))
def ref14_Lines_l2 (a0 : Int) (a1 : WT) : Nat → ByteArray → Int → Option ((List ByteArray))
  | 0, _, _ => none
  | k + 1, s21, s22 => ((ref14_Prefix a1).bind fun x23 => ((ref08_Width x23).bind fun x24 => (if s22 < (w64 (x24 + 0)) then ((sap? s21 (⟨#[32]⟩ : ByteArray)).bind fun x25 => (ref14_Lines_l2 a0 a1 k x25 (w64 (s22 + 1)))) else ((ref14_Text a0).bind fun x26 => ((ref14_Prefix a1).bind fun x27 => ((sap? x27 a1.2.2.1).bind fun x28 => ((sap? s21 (⟨#[94]⟩ : ByteArray)).bind fun x29 => (some ([x26, x28, x29])))))))))
def ref14_Lines_l3 (a0 : Int) (a1 : WT) : Nat → ByteArray → Int → Option ((List ByteArray))
  | 0, _, _ => none
  | k + 1, s30, s31 => ((ref14_Prefix a1).bind fun x32 => ((ref08_Width x32).bind fun x33 => (if s31 < (w64 (x33 + a1.2.2.2)) then ((sap? s30 (⟨#[32]⟩ : ByteArray)).bind fun x34 => (ref14_Lines_l3 a0 a1 k x34 (w64 (s31 + 1)))) else ((ref14_Text a0).bind fun x35 => ((ref14_Prefix a1).bind fun x36 => ((sap? x36 a1.2.2.1).bind fun x37 => ((sap? s30 (⟨#[94]⟩ : ByteArray)).bind fun x38 => (some ([x35, x37, x38])))))))))
def ref14_Lines (a0 : Int) (a1 : WT) : Option ((List ByteArray)) := (if a0 = 0 then (some ([])) else ((ref08_Width a1.2.2.1).bind fun x1 => (if x1 < a1.2.2.2 then ((ref08_Width a1.2.2.1).bind fun x2 => (if x2 < 0 then (ref14_Lines_l0 a0 a1 FUEL (⟨#[]⟩ : ByteArray) 0) else (ref14_Lines_l1 a0 a1 x2 FUEL (⟨#[]⟩ : ByteArray) 0))) else (if a1.2.2.2 < 0 then (ref14_Lines_l2 a0 a1 FUEL (⟨#[]⟩ : ByteArray) 0) else (ref14_Lines_l3 a0 a1 FUEL (⟨#[]⟩ : ByteArray) 0)))))
set_option maxHeartbeats 4000000 in
theorem ref14_Lines_ok {a0 : Int} {a1 : WT} {r : (List ByteArray)} (h : ref14_Lines a0 a1 = some r) :
    Fn Try.prog 28 [.i .i64 a0, .ag [.s a1.1, .i .i64 a1.2.1, .s a1.2.2.1, .i .i64 a1.2.2.2]] (.d (.sl (Ss r))) := by
  unfold ref14_Lines at h
  refine Fn.of (rs := [.tmp 4]) (nt := 43) Try.func28 rfl rfl rfl (by simp) rfl ?_
  refine .seq ?_
  refine .region ?_
  refine vk (vbx) ?_
  refine asn ?_
  refine rn ?_
  refine .gh (Gh.keep [0, 3, 4] rfl) ?_
  refine .seq ?_
  refine .seq ?_
  refine .region ?_
  refine vk (vmvd) ?_
  refine vk (vbi) ?_
  refine rn ?_
  refine .gh (Gh.keep [0, 3, 4, 9] rfl) ?_
  by_cases hc : a0 = 0
  · replace h := ite_t hc h
    refine cnt (decide_eq_true hc) ?_
    refine .seq ?_
    refine .region ?_
    refine asn ?_
    refine rn ?_
    refine .gh (Gh.keep [0, 3, 4] rfl) ?_
    refine .gh (Gh.nlD (t := 4) rfl) ?_
    refine .ret ?_
    cases h
    exact ⟨rfl, rfl⟩
  replace h := ite_f hc h
  refine cnf (decide_eq_false hc) ?_
  refine .skip ?_
  show AW _ _ _ _ _ _
  refine .seq ?_
  refine .region ?_
  refine vk (vfa gF_V_3) ?_
  refine vk (vldp ga_int) ?_
  refine asd ?_
  refine rn ?_
  refine .gh (Gh.keep [0, 3, 4, 5] rfl) ?_
  refine .seq ?_
  refine .seq ?_
  refine .region ?_
  refine vk (vmvd) ?_
  refine vk (vfa gF_V_2) ?_
  refine vk (vldp ga_string) ?_
  obtain ⟨x1, hx1, h⟩ := bnd h
  refine vk (vcl0 (ref08_Width_ok hx1) Try.call32) ?_
  refine vk (vbi) ?_
  refine rn ?_
  refine .gh (Gh.keep [0, 3, 4, 5, 16] rfl) ?_
  by_cases hc : x1 < a1.2.2.2
  · replace h := ite_t hc h
    refine cnt (decide_eq_true hc) ?_
    refine .region ?_
    refine vk (vfa gF_V_2) ?_
    refine vk (vldp ga_string) ?_
    obtain ⟨x2, hx2, h⟩ := bnd h
    refine vk (vcl0 (ref08_Width_ok hx2) Try.call32) ?_
    refine asd ?_
    refine rn ?_
    refine .gh (Gh.keep [0, 3, 4, 5] rfl) ?_
    refine .seq ?_
    refine .seq ?_
    refine .region ?_
    refine vk (vmvd) ?_
    refine vk (vbi) ?_
    refine rn ?_
    refine .gh (Gh.keep [0, 3, 4, 5, 21] rfl) ?_
    by_cases hc : x2 < 0
    · replace h := ite_t hc h
      refine cnt (decide_eq_true hc) ?_
      refine .region ?_
      refine asd ?_
      refine rn ?_
      refine .gh (Gh.keep [0, 3, 4, 5] rfl) ?_
      refine .seq ?_
      refine .region ?_
      refine asd ?_
      refine rn ?_
      refine .gh (Gh.keep [0, 3, 4, 5, 6] rfl) ?_
      refine .seq ?_
      refine .seq ?_
      refine .region ?_
      refine asd ?_
      refine rn ?_
      refine .gh (Gh.keep [0, 3, 4, 5, 6, 7] rfl) ?_
      refine .block ?_
      refine .loop (.gh (Gh.keep [0, 3, 4, 5, 6, 7] rfl) ?_)
      refine AL.ind (σ := Nat × ByteArray × Int) (m := fun p => p.1) (e := fun p => [(0, .d (.i .i64 a0)), (3, .d (.ptr [.s a1.1, .i .i64 a1.2.1, .s a1.2.2.1, .i .i64 a1.2.2.2])), (4, .nl), (5, .d (.i .i64 0)), (6, .d (.s p.2.1)), (7, .d (.i .i64 p.2.2))]) (h := fun p => []) (I := fun p => ref14_Lines_l0 a0 a1 p.1 p.2.1 p.2.2 = some r) ?_ (FUEL, (⟨#[]⟩ : ByteArray), 0) h
      rintro ⟨k, s3, s4⟩ h ih
      dsimp only at h ih ⊢
      rcases k with _ | k
      · rw [ref14_Lines_l0] at h; cases h
      rw [ref14_Lines_l0] at h
      refine .seq ?_
      refine .seq ?_
      refine .region ?_
      refine vk (vmvd) ?_
      refine vk (vlda gA_V gS_V) ?_
      obtain ⟨x5, hx5, h⟩ := bnd h
      refine vk (vcl0 (ref14_Prefix_ok hx5) Try.call31) ?_
      obtain ⟨x6, hx6, h⟩ := bnd h
      refine vk (vcl0 (ref08_Width_ok hx6) Try.call32) ?_
      refine vk (vmvd) ?_
      refine vk (vbi) ?_
      refine vk (vbi) ?_
      refine rn ?_
      refine .gh (Gh.keep [0, 3, 4, 5, 6, 7, 28] rfl) ?_
      by_cases hc : s4 < (w64 (x6 + 0))
      · replace h := ite_t hc h
        refine cnt (decide_eq_true hc) ?_
        refine .skip ?_
        show AW _ _ _ _ _ _
        refine .seq ?_
        refine .block ?_
        refine .region ?_
        refine vk (vmvd) ?_
        obtain ⟨x7, hx7, h⟩ := bnd h
        refine vk (vsa hx7) ?_
        refine asd ?_
        refine .nil ?_
        show AW _ _ _ _ _ _
        refine .gh (Gh.keep [0, 3, 4, 5, 6, 7] rfl) ?_
        refine .region ?_
        refine vk (vmvd) ?_
        refine vk (vbi) ?_
        refine asd ?_
        refine .nil ?_
        refine AL.gh (Gh.keep [0, 3, 4, 5, 6, 7] rfl) ?_
        exact ih (k, x7, (w64 (s4 + 1))) h (Nat.lt_succ_self _)
      replace h := ite_f hc h
      refine cnf (decide_eq_false hc) ?_
      refine .exit ?_
      show AW _ _ _ _ _ _
      refine .seq ?_
      refine .drawn 10 mixed (by kernel_rfl) ?_
      refine dv (vmvd) ?_
      obtain ⟨x8, hx8, h⟩ := bnd h
      refine dv (vcl0 (ref14_Text_ok hx8) Try.call45) ?_
      refine dv (vlda gA_V gS_V) ?_
      obtain ⟨x9, hx9, h⟩ := bnd h
      refine dv (vcl0 (ref14_Prefix_ok hx9) Try.call31) ?_
      refine dv (vfa gF_V_2) ?_
      refine dv (vldp ga_string) ?_
      obtain ⟨x10, hx10, h⟩ := bnd h
      refine dv (vsa hx10) ?_
      refine dv (vmvd) ?_
      obtain ⟨x11, hx11, h⟩ := bnd h
      refine dv (vsa hx11) ?_
      refine dv ((vbsl (Ss_flat [x8, x10, x11]) ge_Ss).deep) ?_
      refine dz ?_
      refine asd ?_
      refine rn ?_
      refine .gh (Gh.keep [4] rfl) ?_
      refine .ret ?_
      cases h
      exact ⟨rfl, rfl⟩
    replace h := ite_f hc h
    refine cnf (decide_eq_false hc) ?_
    refine .skip ?_
    show AW _ _ _ _ _ _
    refine .seq ?_
    refine .region ?_
    refine asd ?_
    refine rn ?_
    refine .gh (Gh.keep [0, 3, 4, 5, 6] rfl) ?_
    refine .seq ?_
    refine .seq ?_
    refine .region ?_
    refine asd ?_
    refine rn ?_
    refine .gh (Gh.keep [0, 3, 4, 5, 6, 7] rfl) ?_
    refine .block ?_
    refine .loop (.gh (Gh.keep [0, 3, 4, 5, 6, 7] rfl) ?_)
    refine AL.ind (σ := Nat × ByteArray × Int) (m := fun p => p.1) (e := fun p => [(0, .d (.i .i64 a0)), (3, .d (.ptr [.s a1.1, .i .i64 a1.2.1, .s a1.2.2.1, .i .i64 a1.2.2.2])), (4, .nl), (5, .d (.i .i64 x2)), (6, .d (.s p.2.1)), (7, .d (.i .i64 p.2.2))]) (h := fun p => []) (I := fun p => ref14_Lines_l1 a0 a1 x2 p.1 p.2.1 p.2.2 = some r) ?_ (FUEL, (⟨#[]⟩ : ByteArray), 0) h
    rintro ⟨k, s12, s13⟩ h ih
    dsimp only at h ih ⊢
    rcases k with _ | k
    · rw [ref14_Lines_l1] at h; cases h
    rw [ref14_Lines_l1] at h
    refine .seq ?_
    refine .seq ?_
    refine .region ?_
    refine vk (vmvd) ?_
    refine vk (vlda gA_V gS_V) ?_
    obtain ⟨x14, hx14, h⟩ := bnd h
    refine vk (vcl0 (ref14_Prefix_ok hx14) Try.call31) ?_
    obtain ⟨x15, hx15, h⟩ := bnd h
    refine vk (vcl0 (ref08_Width_ok hx15) Try.call32) ?_
    refine vk (vmvd) ?_
    refine vk (vbi) ?_
    refine vk (vbi) ?_
    refine rn ?_
    refine .gh (Gh.keep [0, 3, 4, 5, 6, 7, 28] rfl) ?_
    by_cases hc : s13 < (w64 (x15 + x2))
    · replace h := ite_t hc h
      refine cnt (decide_eq_true hc) ?_
      refine .skip ?_
      show AW _ _ _ _ _ _
      refine .seq ?_
      refine .block ?_
      refine .region ?_
      refine vk (vmvd) ?_
      obtain ⟨x16, hx16, h⟩ := bnd h
      refine vk (vsa hx16) ?_
      refine asd ?_
      refine .nil ?_
      show AW _ _ _ _ _ _
      refine .gh (Gh.keep [0, 3, 4, 5, 6, 7] rfl) ?_
      refine .region ?_
      refine vk (vmvd) ?_
      refine vk (vbi) ?_
      refine asd ?_
      refine .nil ?_
      refine AL.gh (Gh.keep [0, 3, 4, 5, 6, 7] rfl) ?_
      exact ih (k, x16, (w64 (s13 + 1))) h (Nat.lt_succ_self _)
    replace h := ite_f hc h
    refine cnf (decide_eq_false hc) ?_
    refine .exit ?_
    show AW _ _ _ _ _ _
    refine .seq ?_
    refine .drawn 10 mixed (by kernel_rfl) ?_
    refine dv (vmvd) ?_
    obtain ⟨x17, hx17, h⟩ := bnd h
    refine dv (vcl0 (ref14_Text_ok hx17) Try.call45) ?_
    refine dv (vlda gA_V gS_V) ?_
    obtain ⟨x18, hx18, h⟩ := bnd h
    refine dv (vcl0 (ref14_Prefix_ok hx18) Try.call31) ?_
    refine dv (vfa gF_V_2) ?_
    refine dv (vldp ga_string) ?_
    obtain ⟨x19, hx19, h⟩ := bnd h
    refine dv (vsa hx19) ?_
    refine dv (vmvd) ?_
    obtain ⟨x20, hx20, h⟩ := bnd h
    refine dv (vsa hx20) ?_
    refine dv ((vbsl (Ss_flat [x17, x19, x20]) ge_Ss).deep) ?_
    refine dz ?_
    refine asd ?_
    refine rn ?_
    refine .gh (Gh.keep [4] rfl) ?_
    refine .ret ?_
    cases h
    exact ⟨rfl, rfl⟩
  replace h := ite_f hc h
  refine cnf (decide_eq_false hc) ?_
  refine .skip ?_
  show AW _ _ _ _ _ _
  refine .seq ?_
  refine .seq ?_
  refine .region ?_
  refine vk (vmvd) ?_
  refine vk (vbi) ?_
  refine rn ?_
  refine .gh (Gh.keep [0, 3, 4, 5, 21] rfl) ?_
  by_cases hc : a1.2.2.2 < 0
  · replace h := ite_t hc h
    refine cnt (decide_eq_true hc) ?_
    refine .region ?_
    refine asd ?_
    refine rn ?_
    refine .gh (Gh.keep [0, 3, 4, 5] rfl) ?_
    refine .seq ?_
    refine .region ?_
    refine asd ?_
    refine rn ?_
    refine .gh (Gh.keep [0, 3, 4, 5, 6] rfl) ?_
    refine .seq ?_
    refine .seq ?_
    refine .region ?_
    refine asd ?_
    refine rn ?_
    refine .gh (Gh.keep [0, 3, 4, 5, 6, 7] rfl) ?_
    refine .block ?_
    refine .loop (.gh (Gh.keep [0, 3, 4, 5, 6, 7] rfl) ?_)
    refine AL.ind (σ := Nat × ByteArray × Int) (m := fun p => p.1) (e := fun p => [(0, .d (.i .i64 a0)), (3, .d (.ptr [.s a1.1, .i .i64 a1.2.1, .s a1.2.2.1, .i .i64 a1.2.2.2])), (4, .nl), (5, .d (.i .i64 0)), (6, .d (.s p.2.1)), (7, .d (.i .i64 p.2.2))]) (h := fun p => []) (I := fun p => ref14_Lines_l2 a0 a1 p.1 p.2.1 p.2.2 = some r) ?_ (FUEL, (⟨#[]⟩ : ByteArray), 0) h
    rintro ⟨k, s21, s22⟩ h ih
    dsimp only at h ih ⊢
    rcases k with _ | k
    · rw [ref14_Lines_l2] at h; cases h
    rw [ref14_Lines_l2] at h
    refine .seq ?_
    refine .seq ?_
    refine .region ?_
    refine vk (vmvd) ?_
    refine vk (vlda gA_V gS_V) ?_
    obtain ⟨x23, hx23, h⟩ := bnd h
    refine vk (vcl0 (ref14_Prefix_ok hx23) Try.call31) ?_
    obtain ⟨x24, hx24, h⟩ := bnd h
    refine vk (vcl0 (ref08_Width_ok hx24) Try.call32) ?_
    refine vk (vmvd) ?_
    refine vk (vbi) ?_
    refine vk (vbi) ?_
    refine rn ?_
    refine .gh (Gh.keep [0, 3, 4, 5, 6, 7, 28] rfl) ?_
    by_cases hc : s22 < (w64 (x24 + 0))
    · replace h := ite_t hc h
      refine cnt (decide_eq_true hc) ?_
      refine .skip ?_
      show AW _ _ _ _ _ _
      refine .seq ?_
      refine .block ?_
      refine .region ?_
      refine vk (vmvd) ?_
      obtain ⟨x25, hx25, h⟩ := bnd h
      refine vk (vsa hx25) ?_
      refine asd ?_
      refine .nil ?_
      show AW _ _ _ _ _ _
      refine .gh (Gh.keep [0, 3, 4, 5, 6, 7] rfl) ?_
      refine .region ?_
      refine vk (vmvd) ?_
      refine vk (vbi) ?_
      refine asd ?_
      refine .nil ?_
      refine AL.gh (Gh.keep [0, 3, 4, 5, 6, 7] rfl) ?_
      exact ih (k, x25, (w64 (s22 + 1))) h (Nat.lt_succ_self _)
    replace h := ite_f hc h
    refine cnf (decide_eq_false hc) ?_
    refine .exit ?_
    show AW _ _ _ _ _ _
    refine .seq ?_
    refine .drawn 10 mixed (by kernel_rfl) ?_
    refine dv (vmvd) ?_
    obtain ⟨x26, hx26, h⟩ := bnd h
    refine dv (vcl0 (ref14_Text_ok hx26) Try.call45) ?_
    refine dv (vlda gA_V gS_V) ?_
    obtain ⟨x27, hx27, h⟩ := bnd h
    refine dv (vcl0 (ref14_Prefix_ok hx27) Try.call31) ?_
    refine dv (vfa gF_V_2) ?_
    refine dv (vldp ga_string) ?_
    obtain ⟨x28, hx28, h⟩ := bnd h
    refine dv (vsa hx28) ?_
    refine dv (vmvd) ?_
    obtain ⟨x29, hx29, h⟩ := bnd h
    refine dv (vsa hx29) ?_
    refine dv ((vbsl (Ss_flat [x26, x28, x29]) ge_Ss).deep) ?_
    refine dz ?_
    refine asd ?_
    refine rn ?_
    refine .gh (Gh.keep [4] rfl) ?_
    refine .ret ?_
    cases h
    exact ⟨rfl, rfl⟩
  replace h := ite_f hc h
  refine cnf (decide_eq_false hc) ?_
  refine .skip ?_
  show AW _ _ _ _ _ _
  refine .seq ?_
  refine .region ?_
  refine asd ?_
  refine rn ?_
  refine .gh (Gh.keep [0, 3, 4, 5, 6] rfl) ?_
  refine .seq ?_
  refine .seq ?_
  refine .region ?_
  refine asd ?_
  refine rn ?_
  refine .gh (Gh.keep [0, 3, 4, 5, 6, 7] rfl) ?_
  refine .block ?_
  refine .loop (.gh (Gh.keep [0, 3, 4, 5, 6, 7] rfl) ?_)
  refine AL.ind (σ := Nat × ByteArray × Int) (m := fun p => p.1) (e := fun p => [(0, .d (.i .i64 a0)), (3, .d (.ptr [.s a1.1, .i .i64 a1.2.1, .s a1.2.2.1, .i .i64 a1.2.2.2])), (4, .nl), (5, .d (.i .i64 a1.2.2.2)), (6, .d (.s p.2.1)), (7, .d (.i .i64 p.2.2))]) (h := fun p => []) (I := fun p => ref14_Lines_l3 a0 a1 p.1 p.2.1 p.2.2 = some r) ?_ (FUEL, (⟨#[]⟩ : ByteArray), 0) h
  rintro ⟨k, s30, s31⟩ h ih
  dsimp only at h ih ⊢
  rcases k with _ | k
  · rw [ref14_Lines_l3] at h; cases h
  rw [ref14_Lines_l3] at h
  refine .seq ?_
  refine .seq ?_
  refine .region ?_
  refine vk (vmvd) ?_
  refine vk (vlda gA_V gS_V) ?_
  obtain ⟨x32, hx32, h⟩ := bnd h
  refine vk (vcl0 (ref14_Prefix_ok hx32) Try.call31) ?_
  obtain ⟨x33, hx33, h⟩ := bnd h
  refine vk (vcl0 (ref08_Width_ok hx33) Try.call32) ?_
  refine vk (vmvd) ?_
  refine vk (vbi) ?_
  refine vk (vbi) ?_
  refine rn ?_
  refine .gh (Gh.keep [0, 3, 4, 5, 6, 7, 28] rfl) ?_
  by_cases hc : s31 < (w64 (x33 + a1.2.2.2))
  · replace h := ite_t hc h
    refine cnt (decide_eq_true hc) ?_
    refine .skip ?_
    show AW _ _ _ _ _ _
    refine .seq ?_
    refine .block ?_
    refine .region ?_
    refine vk (vmvd) ?_
    obtain ⟨x34, hx34, h⟩ := bnd h
    refine vk (vsa hx34) ?_
    refine asd ?_
    refine .nil ?_
    show AW _ _ _ _ _ _
    refine .gh (Gh.keep [0, 3, 4, 5, 6, 7] rfl) ?_
    refine .region ?_
    refine vk (vmvd) ?_
    refine vk (vbi) ?_
    refine asd ?_
    refine .nil ?_
    refine AL.gh (Gh.keep [0, 3, 4, 5, 6, 7] rfl) ?_
    exact ih (k, x34, (w64 (s31 + 1))) h (Nat.lt_succ_self _)
  replace h := ite_f hc h
  refine cnf (decide_eq_false hc) ?_
  refine .exit ?_
  show AW _ _ _ _ _ _
  refine .seq ?_
  refine .drawn 10 mixed (by kernel_rfl) ?_
  refine dv (vmvd) ?_
  obtain ⟨x35, hx35, h⟩ := bnd h
  refine dv (vcl0 (ref14_Text_ok hx35) Try.call45) ?_
  refine dv (vlda gA_V gS_V) ?_
  obtain ⟨x36, hx36, h⟩ := bnd h
  refine dv (vcl0 (ref14_Prefix_ok hx36) Try.call31) ?_
  refine dv (vfa gF_V_2) ?_
  refine dv (vldp ga_string) ?_
  obtain ⟨x37, hx37, h⟩ := bnd h
  refine dv (vsa hx37) ?_
  refine dv (vmvd) ?_
  obtain ⟨x38, hx38, h⟩ := bnd h
  refine dv (vsa hx38) ?_
  refine dv ((vbsl (Ss_flat [x35, x37, x38]) ge_Ss).deep) ?_
  refine dz ?_
  refine asd ?_
  refine rn ?_
  refine .gh (Gh.keep [4] rfl) ?_
  refine .ret ?_
  cases h
  exact ⟨rfl, rfl⟩

def ref11_SameTexts_l0 (a0 : (List ByteArray)) (a1 : (List ByteArray)) : Nat → Bool → Int → Option (Bool)
  | 0, _, _ => none
  | k + 1, s1, s2 => (if s2 < ((List.length a0 : Nat) : Int) then ((rd? a0 s2).bind fun x3 => ((rd? a1 s2).bind fun x4 => (if x3 = x4 then (ref11_SameTexts_l0 a0 a1 k s1 (w64 (s2 + 1))) else (some (false))))) else (some (true)))
def ref11_SameTexts (a0 : (List ByteArray)) (a1 : (List ByteArray)) : Option (Bool) := (if ((List.length a0 : Nat) : Int) = ((List.length a1 : Nat) : Int) then (ref11_SameTexts_l0 a0 a1 FUEL false 0) else (some (false)))
theorem ref11_SameTexts_ok {a0 : (List ByteArray)} {a1 : (List ByteArray)} {r : Bool} (h : ref11_SameTexts a0 a1 = some r) :
    Fn Try.prog 26 [.sl (Ss a0), .sl (Ss a1)] (.d (.b r)) := by
  unfold ref11_SameTexts at h
  refine Fn.of (rs := [.tmp 4]) (nt := 26) Try.func26 rfl rfl rfl (by simp) rfl ?_
  refine .seq ?_
  refine .region ?_
  refine asd ?_
  refine rn ?_
  refine .gh (Gh.keep [0, 1, 4] rfl) ?_
  refine .seq ?_
  refine .seq ?_
  refine .region ?_
  refine vk (vmvd) ?_
  refine vk (vlnE (Ss_length _) (Ss_sz _) gu_Ss) ?_
  refine vk (vmvd) ?_
  refine vk (vlnE (Ss_length _) (Ss_sz _) gu_Ss) ?_
  refine vk (vbi) ?_
  refine rn ?_
  refine .gh (Gh.keep [0, 1, 4, 10] rfl) ?_
  by_cases hc : ((List.length a0 : Nat) : Int) = ((List.length a1 : Nat) : Int)
  · replace h := ite_t hc h
    refine cnf (ntf (decide_eq_true hc)) ?_
    refine .skip ?_
    show AW _ _ _ _ _ _
    refine .seq ?_
    refine .seq ?_
    refine .region ?_
    refine asd ?_
    refine rn ?_
    refine .gh (Gh.keep [0, 1, 4, 5] rfl) ?_
    refine .block ?_
    refine .loop (.gh (Gh.keep [0, 1, 4, 5] rfl) ?_)
    refine AL.ind (σ := Nat × Bool × Int) (m := fun p => p.1) (e := fun p => [(0, .d (.sl (Ss a0))), (1, .d (.sl (Ss a1))), (4, .d (.b p.2.1)), (5, .d (.i .i64 p.2.2))]) (h := fun p => []) (I := fun p => ref11_SameTexts_l0 a0 a1 p.1 p.2.1 p.2.2 = some r) ?_ (FUEL, false, 0) h
    rintro ⟨k, s1, s2⟩ h ih
    dsimp only at h ih ⊢
    rcases k with _ | k
    · rw [ref11_SameTexts_l0] at h; cases h
    rw [ref11_SameTexts_l0] at h
    refine .seq ?_
    refine .seq ?_
    refine .region ?_
    refine vk (vmvd) ?_
    refine vk (vmvd) ?_
    refine vk (vlnE (Ss_length _) (Ss_sz _) gu_Ss) ?_
    refine vk (vbi) ?_
    refine rn ?_
    refine .gh (Gh.keep [0, 1, 4, 5, 14] rfl) ?_
    by_cases hc : s2 < ((List.length a0 : Nat) : Int)
    · replace h := ite_t hc h
      refine cnt (decide_eq_true hc) ?_
      refine .skip ?_
      show AW _ _ _ _ _ _
      refine .seq ?_
      refine .block ?_
      refine .seq ?_
      refine .drawn 9 mixed (by kernel_rfl) ?_
      refine dv (vmvd) ?_
      refine dv (vmvd) ?_
      obtain ⟨x3, hx3, h⟩ := bnd h
      obtain ⟨nx3, hnx3, hxx3⟩ := rd_some hx3
      refine dv (vix nx3 hnx3 (Ss_at hxx3) rfl gs_Ss) ?_
      refine dv (vldp ga_string) ?_
      refine dv (vmvd) ?_
      refine dv (vmvd) ?_
      obtain ⟨x4, hx4, h⟩ := bnd h
      obtain ⟨nx4, hnx4, hxx4⟩ := rd_some hx4
      refine dv (vix nx4 hnx4 (Ss_at hxx4) rfl gs_Ss) ?_
      refine dv (vldp ga_string) ?_
      refine dv (vsq (.inr rfl)) ?_
      refine dz ?_
      refine rn ?_
      refine .gh (Gh.keep [0, 1, 4, 5, 25] rfl) ?_
      by_cases hc : x3 = x4
      · replace h := ite_t hc h
        refine cnf (ntf (decide_eq_true hc)) ?_
        refine .skip ?_
        show AW _ _ _ _ _ _
        refine .region ?_
        refine vk (vmvd) ?_
        refine vk (vbi) ?_
        refine asd ?_
        refine .nil ?_
        refine AL.gh (Gh.keep [0, 1, 4, 5] rfl) ?_
        exact ih (k, s1, (w64 (s2 + 1))) h (Nat.lt_succ_self _)
      replace h := ite_f hc h
      refine cnt (ntt (decide_eq_false hc)) ?_
      refine .seq ?_
      refine .region ?_
      refine asd ?_
      refine rn ?_
      refine .gh (Gh.keep [0, 1, 4, 5] rfl) ?_
      refine .ret ?_
      cases h
      exact ⟨rfl, rfl⟩
    replace h := ite_f hc h
    refine cnf (decide_eq_false hc) ?_
    refine .exit ?_
    show AW _ _ _ _ _ _
    refine .seq ?_
    refine .region ?_
    refine asd ?_
    refine rn ?_
    refine .gh (Gh.keep [4] rfl) ?_
    refine .ret ?_
    cases h
    exact ⟨rfl, rfl⟩
  replace h := ite_f hc h
  refine cnt (ntt (decide_eq_false hc)) ?_
  refine .seq ?_
  refine .region ?_
  refine asd ?_
  refine rn ?_
  refine .gh (Gh.keep [0, 1, 4] rfl) ?_
  refine .ret ?_
  cases h
  exact ⟨rfl, rfl⟩
end Go.FL
/-
  A FUNCTIONAL LOGIC, 42: iterators that make memory of their own, and rounds that end a loop.
-/
namespace Go.FL
open Go Go.RowKit

section
variable {P : Program} {C : Cx} {X : Snap} {o : Oper} {ops : Array Oper} {Q : Exit → Env → Heap → Prop} {env env' : Env} {H H' : Heap} {a : Act} {w w' : World} {I I' : Nat → Prop} {μ μ' : List Nat} {O O' : Nat → Option Loc}

/-- What a loop's caller says: the round, the world, what nobody changes any more, what is the iterator's own. -/
abbrev JT := Nat → World → (Nat → Prop) → (Nat → Prop) → Prop
/-- It does not mind an iterator's steps. -/
def JOK (J : JT) : Prop := ∀ {k : Nat} {W : World} {I K : Nat → Prop} {W' : World} {I' K' : Nat → Prop}, J k W I K → W.heap.size ≤ W'.heap.size → (∀ b, b < W.heap.size → ¬ K b → W'.heap[b]? = W.heap[b]?) →
  W'.os = W.os → W'.tape = W.tape → W'.output = W.output → (∀ b, I b → I' b) → (∀ b, I' b → b < W'.heap.size) → (∀ b, b < W.heap.size → ¬ K b → I' b → I b) → (∀ b, K' b → b < W'.heap.size ∧ ¬ I' b) → (∀ b, K' b → b < W.heap.size → K b) → J k W' I' K'
/-- A round that is handed ds answers b. -/
def Round1 (P : Program) (l : Nat) (J : JT) (k : Nat) (b : Bool) (ds : List DV) : Prop := ∀ (W : World) (I K : Nat → Prop) (vs : List Value), J k W I K → RepAll W I ds vs →
  YieldAt (om none) 0 P l vs.toArray W fun e W' => e = .returned (.bool b) ∧ ∃ I', J (k + 1) W' I' K ∧ (∀ b, K b → W'.heap[b]? = W.heap[b]? ∧ ¬ I' b) ∧ (∀ b, I b → I' b ∧ W'.heap[b]? = W.heap[b]?) ∧ W.heap.size ≤ W'.heap.size ∧ ∀ b, I' b → b < W'.heap.size
/-- An iterator: with these captures it yields ys one behind the other, till the round n answers false (none does, where n is ys' length). -/
def ItG (P : Program) (f : FuncId) (caps : List DV) (ys : List (List DV)) (n : Nat) : Prop :=
  ∀ (l : Nat) (W : World) (I : Nat → Prop) (cv : List Value) (J : JT), JOK J → RepAll W I caps cv → (∀ b, I b → b < W.heap.size) → (∀ k ds, ys[k]? = some ds → k ≤ n → Round1 P l J k (decide (k < n)) ds) → J 0 W I (fun _ => False) →
    CallsIn (om none) 0 P f (#[.func (.yield l) #[] #[]] ++ cv.toArray) W fun e W' => (∃ v, e = .returned v) ∧ ∃ I' K', J (min (n + 1) ys.length) W' I' K'

/-! ### the iterator's side -/
def JX (J : JT) (k : Nat) (X : Snap) : Prop := ∃ K, J k X.w X.I K ∧ ∀ b, b < X.w.heap.size → ¬ X.K b → K b
/-- The frame's beginning. -/
def XJ (J : JT) (nt : Nat × Nat) (ags : List Value) (k : Nat) (X : Snap) : Prop := X.nt = nt ∧ X.n0 = 0 ∧ X.ne = 0 ∧ X.dfs = [] ∧ X.args = ags ∧ JX J k X
def PostJ (P : Program) (nt : Nat × Nat) (J : JT) (ags : List Value) (Q : Exit → Env → Heap → Nat → Prop) : Exit → Act → World → Prop := fun e a w =>
  ∃ X env H I μ O k, XJ J nt ags k X ∧ Sim P X env H a w I μ O ∧ Q e env H k
def AWJ (P : Program) (nt : Nat × Nat) (J : JT) (ags : List Value) (c : Code) (Q : Exit → Env → Heap → Nat → Prop) (env : Env) (H : Heap) (k : Nat) : Prop :=
  ∀ X a w I μ O, XJ J nt ags k X → Sim P X env H a w I μ O → c.wpIn (om none) 0 P (PostJ P nt J ags Q) a w
def ALJ (P : Program) (nt : Nat × Nat) (J : JT) (ags : List Value) (c : Code) (Q : Exit → Env → Heap → Nat → Prop) (env : Env) (H : Heap) (k : Nat) : Prop :=
  ∀ X a w I μ O, XJ J nt ags k X → Sim P X env H a w I μ O → LB (om none) 0 P c (PostJ P nt J ags Q) a w
def RLJ (P : Program) (nt : Nat × Nat) (J : JT) (ags : List Value) (ops : Array Oper) (Q : Exit → Env → Heap → Nat → Prop) (n : Nat) (l : List Oper) (env : Env) (H : Heap) (k : Nat) : Prop :=
  ops.toList.drop n = l → ∀ X a w I μ O, XJ J nt ags k X → Sim P X env H a w I μ O → wpOpsIn (om none) 0 P ops (PostJ P nt J ags Q) (List.range' n l.length) a w

/-- Behind code that ends normally, K; else Q. -/
def thenJ (K : Env → Heap → Nat → Prop) (Q : Exit → Env → Heap → Nat → Prop) : Exit → Env → Heap → Nat → Prop
  | .normal, env, H, k => K env H k
  | e, env, H, k => Q e env H k
def inBlkJ (id : Nat) (Q : Exit → Env → Heap → Nat → Prop) : Exit → Env → Heap → Nat → Prop
  | .exit id', env, H, k => if id' = id then Q .normal env H k else Q (.exit id') env H k
  | e, env, H, k => Q e env H k

variable {nt : Nat × Nat} {J : JT} {ags : List Value} {QJ : Exit → Env → Heap → Nat → Prop} {k n : Nat} {l : List Oper}

theorem AWJ.lift {c : Code} (h : AW P { nt := nt, n0 := 0, ne := 0 } c (fun e env H => QJ e env H k) env H) : AWJ P nt J ags c QJ env H k := fun X a w I μ O hx hs =>
  wpIn_mono (h X a w I μ O hx.1 hx.2.1 hx.2.2.1 hs) fun _ _ _ ⟨env, H, I, μ, O, s, q⟩ => ⟨X, env, H, I, μ, O, k, hx, s, q⟩
theorem AWJ.skip (h : QJ .normal env H k) : AWJ P nt J ags .skip QJ env H k := .lift (.skip h)
theorem AWJ.exit {id : Nat} (h : QJ (.exit id) env H k) : AWJ P nt J ags (.exit id) QJ env H k := .lift (.exit h)
theorem AWJ.ret (h : QJ .ret env H k) : AWJ P nt J ags .ret QJ env H k := .lift (.ret h)
theorem AWJ.seq {x y : Code} (h : AWJ P nt J ags x (thenJ (AWJ P nt J ags y QJ) QJ) env H k) : AWJ P nt J ags (.seq x y) QJ env H k := fun X a w I μ O hx hs =>
  wpIn_seq (wpIn_mono (h X a w I μ O hx hs) fun e _ _ ⟨X', env', H', I', μ', O', k', hx', s, q⟩ => by
    cases e with
    | normal => exact q X' _ _ I' μ' O' hx' s
    | _ => exact ⟨X', env', H', I', μ', O', k', hx', s, q⟩)
theorem AWJ.block {id : Nat} {c : Code} (h : AWJ P nt J ags c (inBlkJ id QJ) env H k) : AWJ P nt J ags (.block id c) QJ env H k := fun X a w I μ O hx hs =>
  wpIn_block (wpIn_mono (h X a w I μ O hx hs) fun e _ _ ⟨X', env', H', I', μ', O', k', hx', s, q⟩ => by
    cases e with
    | exit id' =>
      simp only [Exit.inBlock]
      simp only [inBlkJ] at q
      split
      · rename_i he; rw [if_pos he] at q; exact ⟨X', env', H', I', μ', O', k', hx', s, q⟩
      · rename_i he; rw [if_neg he] at q; exact ⟨X', env', H', I', μ', O', k', hx', s, q⟩
    | _ => exact ⟨X', env', H', I', μ', O', k', hx', s, q⟩)
theorem AWJ.cond {t : Nat} {x : Bool} {c1 c2 : Code} (hx : get env t = .d (.b x)) (h1 : x = true → AWJ P nt J ags c1 QJ env H k) (h2 : x = false → AWJ P nt J ags c2 QJ env H k) : AWJ P nt J ags (.cond (.tmp t) c1 c2) QJ env H k := fun X a w I μ O g hs =>
  wpIn_cond_split (t := x) (hs.bool hx) (fun e => h1 e X a w I μ O g hs) (fun e => h2 e X a w I μ O g hs)
theorem ALJ.loop {c : Code} (h : ALJ P nt J ags c QJ env H k) : AWJ P nt J ags (.loop c) QJ env H k := fun X a w I μ O hx hs => (h X a w I μ O hx hs).loop
theorem ALJ.round {c : Code} (h : AWJ P nt J ags c (thenJ (ALJ P nt J ags c QJ) QJ) env H k) : ALJ P nt J ags c QJ env H k := fun X a w I μ O hx hs =>
  .round (wpIn_mono (h X a w I μ O hx hs) fun e _ _ ⟨X', env', H', I', μ', O', k', hx', s, q⟩ => by
    cases e with
    | normal => exact q X' _ _ I' μ' O' hx' s
    | _ => exact ⟨X', env', H', I', μ', O', k', hx', s, q⟩)
theorem ALJ.ind {c : Code} {σ : Type} (m : σ → Nat) (e : σ → Env) (h : σ → Heap) (r : σ → Nat) (I : σ → Prop)
    (step : ∀ s, I s → (∀ s', I s' → m s' < m s → ALJ P nt J ags c QJ (e s') (h s') (r s')) → AWJ P nt J ags c (thenJ (ALJ P nt J ags c QJ) QJ) (e s) (h s) (r s)) : ∀ s, I s → ALJ P nt J ags c QJ (e s) (h s) (r s) := by
  suffices H : ∀ n s, m s = n → I s → ALJ P nt J ags c QJ (e s) (h s) (r s) from fun s hs => H _ s rfl hs
  intro n
  induction n using Nat.strongRecOn with
  | ind n ih =>
    intro s hm hs
    exact .round (step s hs fun s' h1 h2 => ih (m s') (by omega) s' rfl h1)
theorem AWJ.gh {c : Code} (g : Gh P { nt := nt, n0 := 0, ne := 0 } env H env' H') (h : AWJ P nt J ags c QJ env' H' k) : AWJ P nt J ags c QJ env H k := fun X a w I μ O hx hs =>
  let ⟨I', O', hs'⟩ := g X a w I μ O hx.1 hx.2.1 hx.2.2.1 hs; h X a w I' μ O' hx hs'
theorem ALJ.gh {c : Code} (g : Gh P { nt := nt, n0 := 0, ne := 0 } env H env' H') (h : ALJ P nt J ags c QJ env' H' k) : ALJ P nt J ags c QJ env H k := fun X a w I μ O hx hs =>
  let ⟨I', O', hs'⟩ := g X a w I μ O hx.1 hx.2.1 hx.2.2.1 hs; h X a w I' μ O' hx hs'
theorem AWJ.region {id : Nat} {ops : Array Oper} (h : RLJ P nt J ags ops QJ 0 ops.toList env H k) : AWJ P nt J ags (.region id ops false) QJ env H k := fun X a w I μ O hx hs => by
  refine wpIn_region ?_
  rw [List.range_eq_range', ← Array.length_toList]
  exact h rfl X a w I μ O hx hs
theorem RLJ.nil (h : QJ .normal env H k) : RLJ P nt J ags ops QJ n [] env H k := fun _ X _ _ I μ O hx hs => ⟨X, env, H, I, μ, O, k, hx, hs, h⟩
theorem RLJ.cons (hg : o.guard = none) (h : OpOK P { nt := nt, n0 := 0, ne := 0 } o env H fun e h => RLJ P nt J ags ops QJ (n + 1) l e h k) : RLJ P nt J ags ops QJ n (o :: l) env H k := by
  intro hl X a w I μ O hx hs
  obtain ⟨e1, e2⟩ := drop_cons hl
  rw [List.length_cons, List.range'_succ]
  have e1' : ops[n]? = some o := by simpa using e1
  simp only [wpOpsIn, e1', Region.wanted, hg, if_true]
  exact h X a w I μ O _ _ hx.1 hx.2.1 hx.2.2.1 hs fun env' H' a' w' I' μ' O' hs' hK => hK e2 X a' w' I' μ' O' hx hs'
theorem ItG.of {f : FuncId} {fn : Func} {c : Code} {caps : List DV} {ys : List (List DV)} {m nt : Nat} (hf : P.funcs[f]? = some fn) (hb : fn.body = some c) (hrs : fn.results = #[]) (hnt : fn.ntmps = nt) (hn : caps.length + 1 ≤ nt)
    (h : ∀ lp J, JOK J → (∀ k ds, ys[k]? = some ds → k ≤ m → Round1 P lp J k (decide (k < m)) ds) →
      AWJ P (0, nt) J [] c (fun e _ _ k => (e = .normal ∨ e = .ret) ∧ k = min (m + 1) ys.length) (argEnv 0 (.yl lp :: caps)) [] 0) : ItG P f caps ys m := by
  intro lp W I cv J hJ hcv hI hR h0
  refine callsIn_of_wp hf hb trivial ?_
  have hlen := hcv.length
  let vs : List Value := .func (.yield lp) #[] #[] :: cv
  have hargs : #[Value.func (.yield lp) #[] #[]] ++ cv.toArray = vs.toArray := by apply Array.ext'; simp [vs]
  rw [hargs]
  have hvr : RepAll W I (.yl lp :: caps) vs := .cons (.yl lp) hcv
  let X : Snap := { w := W, I := I, K := fun b => b < W.heap.size, n0 := 0, ne := 0, μ := [], nt := (0, nt), dfs := [], args := [] }
  let a : Act := { tmps := vs.toArray ++ Array.replicate (fn.ntmps - vs.toArray.size) undef, defers := [] }
  have hat : ∀ (j : Nat) (v : Value), vs[j]? = some v → a.tmps.getD j undef = v := fun j v hj => by
    have hjl : j < vs.length := (List.getElem?_eq_some_iff.1 hj).1
    have e2 : (vs.toArray ++ Array.replicate (fn.ntmps - vs.length) undef)[j]? = some v := by
      rw [Array.getElem?_append_left (by simpa using hjl)]; simpa using hj
    simp [a, e2]
  have hs : Sim P X (argEnv 0 (.yl lp :: caps)) [] a W I [] (fun _ => none) := by
    refine ⟨{ prot := fun _ _ => rfl, kO := fun _ _ => rfl, kI := fun _ _ h => h, mono := fun _ h => h, os := rfl, tape := rfl, output := rfl, size := Nat.le_refl _, own := (fun b l h => by simp at h), ilt := hI, μlen := rfl, μpre := (fun i b hi _ => by simp [X] at hi), nle := (by simp [X]), heap := (fun id o h => by simp at h), klt := fun b hb => hb, n0le := (by simp [X]) }, fun t => ?_, ?_, rfl, fun t ht => absurd ht (by simp [X])⟩
    · rcases argEnv_rep (tmps := a.tmps) (k := 0) hvr (fun j v hj => by rw [Nat.zero_add]; exact hat j v hj) t with h0 | ⟨d, h0, h1⟩
      · rw [h0]; exact .un
      · rw [h0]; exact .of (bs := []) (.d h1) List.nodup_nil (by simp)
    · simp [a, X, hnt, vs]; omega
  refine wpIn_mono (h lp J hJ hR X a W I [] _ ⟨rfl, rfl, rfl, rfl, rfl, fun _ => False, h0, fun b hb hk => absurd hb hk⟩ hs) fun e a' w' ⟨X', env', H', I', μ', O', k', hx', s', he, hk⟩ => ?_
  subst hk
  obtain ⟨x1, x2, x3, x4, x5, K, hK1, hK2⟩ := hx'
  have fin : a'.defers = [] ∧ ∃ v, (results fn a'.tmps).run P w' = .ok v w' ∧ ((∃ v', Ending.returned v = .returned v') ∧ ∃ I' K', J (min (m + 1) ys.length) w' I' K') := by
    refine ⟨by rw [s'.dfs.1, x4], _, results_none hrs _ _ _, ⟨_, rfl⟩, I', fun b => O' b ≠ none, ?_⟩
    exact hJ hK1 s'.size (fun b hb hnk => s'.prot b (Classical.byContradiction fun hx => hnk (hK2 b hb hx))) s'.os s'.tape s'.output s'.mono s'.ilt
      (fun b hb hnk hi => s'.kI b (Classical.byContradiction fun hx => hnk (hK2 b hb hx)) hi) (fun b hb => by
        cases hO : O' b with
        | none => exact absurd hO hb
        | some l => exact s'.own b l hO) (fun b hb hlt => hK2 b hlt fun hk => hb (s'.kO b hk))
  cases e with
  | normal => exact fin
  | ret => exact fin
  | _ => rcases he with he | he <;> cases he

end
end Go.FL
/-
  A FUNCTIONAL LOGIC, 43: function values: known by what they do, or with pointers to boxes that they write; results of bodies that range over functions.
-/
namespace Go.FL
open Go Go.RowKit

/-- Called with xs, the function value gv gives r. -/
def FnV (P : Program) (gv : DV) (xs : List DV) (r : AV) : Prop :=
  ∃ f first caps, gv = .fn f first caps ∧ (∀ args w, (callFunc f args).run P w = .ok (.enter f args) w) ∧ Fn P f (first ++ xs ++ caps) r
/-- A function value, with what it does. -/
structure FV (P : Program) {α β : Type} (enc : α → List DV) (dec : β → AV) where
  dv : DV
  g : α → Option β
  ok : ∀ x r, g x = some r → FnV P dv (enc x) (dec r)
/-- A function, over objects: what it gives, and what they are then. -/
def FnR (P : Program) (f : FuncId) (args : List AV) (H : Heap) (post : AV → Heap → Prop) : Prop :=
  ∀ (X : Snap) (w : World) (I : Nat → Prop) (μ : List Nat) (O : Nat → Option Loc) (vs : List Value), X.w = w → X.I = I → X.n0 = 0 → X.ne = H.length → X.μ = μ → Mem P X H w I μ O → ARepAll P w I μ args vs [] →
    CallsIn (om none) 0 P f vs.toArray w fun e w' => ∃ v I' μ' O' H' r rs, e = .returned v ∧ Mem P X H' w' I' μ' O' ∧ ARep P w' I' μ' r v rs ∧ rs.Nodup ∧ (∀ b ∈ rs, ∃ n, O' b = some (.t n)) ∧ post r H'

section
variable {P : Program} {C : Cx} {X : Snap} {o : Oper} {ops : Array Oper} {Q : Exit → Env → Heap → Prop} {env env' : Env} {H H' : Heap} {a : Act} {w w' : World} {I I' : Nat → Prop} {μ μ' : List Nat} {O O' : Nat → Option Loc}
  {K : Env → Heap → Prop} {k : Nat} {l : List Oper}

theorem FnR.mono {f : FuncId} {args : List AV} {post post' : AV → Heap → Prop} (h : FnR P f args H post) (hp : ∀ r H', post r H' → post' r H') : FnR P f args H post' := fun X w I μ O vs e1 e2 e3 e4 e5 hm ha =>
  (h X w I μ O vs e1 e2 e3 e4 e5 hm ha).mono fun _ _ ⟨v, I', μ', O', H', r, rs, q1, q2, q3, q4, q5, q6⟩ => ⟨v, I', μ', O', H', r, rs, q1, q2, q3, q4, q5, hp _ _ q6⟩

theorem FnV.of {f : FuncId} {caps xs : List DV} {r : AV} (hcall : ∀ args w, (callFunc f args).run P w = .ok (.enter f args) w) (h : Fn P f (xs ++ caps) r) : FnV P (.fn f [] caps) xs r := ⟨f, [], caps, rfl, hcall, by simpa using h⟩
theorem ARepAll.append : ∀ {xs : List AV} {vs : List Value} {b1 : List Nat} {ys : List AV} {us : List Value} {b2 : List Nat}, ARepAll P w I μ xs vs b1 → ARepAll P w I μ ys us b2 → ARepAll P w I μ (xs ++ ys) (vs ++ us) (b1 ++ b2)
  | _, _, _, _, _, _, .nil, k => k
  | _, _, _, _, _, _, .cons h t, k => by
    have := ARepAll.cons h (t.append k)
    rwa [← List.append_assoc] at this

theorem OpOK.callR {c : Call} {fo : Operand} {f : FuncId} {caps avs : List AV} {post : AV → Heap → Prop} (ho : o.op = .call c) (hc : c.callee = .value fo) (hfo : (fo = .func f ∧ caps = []) ∨ (lk env fo = .fn f [] caps ∧ noOwnL caps = true)) (ha : argsA env c.args.toList = some avs) (hcr : cellRefs env = false) (hn0 : C.n0 = 0)
    (hcall : ∀ args w, (callFunc f args).run P w = .ok (.enter f args) w) (hfn : FnR P f (avs ++ caps) H post) (hd : ∀ t, o.dst = some t → okT C.nt t)
    (hK : ∀ r H', post r H' → K (match o.dst with | some t => put env t r | none => env) H') : OpOK P C o env H K := by
  intro X a w I μ O next Q h1 h2 h3 hs hn
  refine ⟨fun _ _ => trivial, ?_⟩
  have hcv : ∃ cs, a.eval fo = .func (.func f) #[] cs ∧ ARepAll P w I μ caps cs.toList [] := by
    rcases hfo with ⟨rfl, rfl⟩ | ⟨hl, hnc⟩
    · exact ⟨#[], rfl, .nil⟩
    · obtain ⟨bs, hr⟩ := hs.lk (x := fo) (by rw [hl]; rfl)
      rw [hl] at hr
      have hno := noOwn_bs hr (by simp [noOwn, noOwnL, hnc])
      subst hno
      generalize a.eval fo = u at hr
      generalize hbs : ([] : List Nat) = bs at hr
      cases hr with
      | fn k1 k2 =>
        cases k1
        have : _ ++ _ = ([] : List Nat) := hbs.symm
        rw [List.append_eq_nil_iff] at this
        have k3 := this.2
        subst k3
        exact ⟨_, rfl, by simpa using k2⟩
  obtain ⟨cs, hev, hcs⟩ := hcv
  have hres := run_resolve_value (P := P) (w := w) (ρ := a.eval) (ty := o.type) hc hev
  have hex : (execOp a.eval o).run P w = .ok (.enter f (#[] ++ c.args.map a.eval ++ cs)) w := by
    simp only [execOp, ho, Sem.run_bind, hres, Result.andThen_ok, invoke, hcall]
  rw [Oper.semAt_eq _ _ _ (by simp [ho]), hex, Oper.uponIn_enter]
  refine ⟨fun h => (by simp [om] at h), ?_⟩
  obtain ⟨Y, O2, y1, y2, y3, y4, y5, ym, _, yk⟩ := hs.over (by omega) hcr [] (by simp)
  have hargs : ARepAll P w I μ (avs ++ caps) (c.args.toList.map a.eval ++ cs.toList) [] := (hs.argsA ha).append hcs
  have hcl := hfn Y w I μ O2 _ y1 y2 y3 y4 y5 ym hargs
  have e : (c.args.toList.map a.eval ++ cs.toList).toArray = #[] ++ c.args.map a.eval ++ cs := by apply Array.ext'; simp
  rw [e] at hcl
  refine ⟨trivial, fun csF hroom => ?_⟩
  obtain ⟨e, w', fr, ⟨v, I', μ', O', Hn, r, rs, rfl, q1, q2, q3, q4, q5⟩, s, x⟩ := hcl.2 csF (room_wide _)
  refine ⟨.returned v, w', fr, ?_, s, x⟩
  obtain ⟨On, k1, k2⟩ := yk q1 (rs := rs) q4
  have hh : Hand P w' I' μ' On r v := ⟨rs, q2, q3, k2⟩
  show next (a.put o.dst v) w'
  have hK := hK r Hn q5
  cases hdst : o.dst with
  | none => exact hn _ _ _ _ _ _ _ k1 (by rw [hdst] at hK; exact hK)
  | some t => exact hn _ _ _ _ _ _ _ (k1.put_hand (by rw [h1]; exact hd t hdst) hh) (by rw [hdst] at hK; exact hK)
/-- A call over objects, of a function. -/
theorem clR {c : Call} {f t : Nat} {avs : List AV} {post : AV → Heap → Prop} (hfn : FnR P f avs H post) (hcall : ∀ args w, (callFunc f args).run P w = .ok (.enter f args) w) (h : ∀ r H', post r H' → RL P C ops Q (k + 1) l ((t, r) :: env) H')
    (hg : grd ops env o true = true := by rfl) (ho : o.op = .call c := by rfl) (hc : c.callee = .value (.func f) := by rfl) (ha : argsA env c.args.toList = some avs := by rfl) (hcr : cellRefs env = false := by rfl) (hd : o.dst = some t := by rfl)
    (hf : isOwn (get env t) = false := by rfl) (ht : okT C.nt t := by rfl) (h0 : C.n0 = 0 := by rfl) : RL P C ops Q k (o :: l) env H := by
  refine .go hg (OpOK.callR (caps := []) ho hc (.inl ⟨rfl, rfl⟩) ha hcr h0 hcall (by rwa [List.append_nil]) (fun t' h' => by rw [hd] at h'; cases h'; exact ht) fun r H' hp => ?_)
  rw [hd]
  show RL P C ops Q (k + 1) l (put env t r) H'
  rw [put_cons hf]; exact h r H' hp
/-- How such a function ends. -/
def retR (rs : List ResultVar) (post : AV → Heap → Prop) : Exit → Env → Heap → Prop
  | .normal, env, H => ∃ r, resOK env r rs ∧ post r H
  | .ret, env, H => ∃ r, resOK env r rs ∧ post r H
  | _, _, _ => False
theorem FnR.of {f : FuncId} {fn : Func} {c : Code} {args : List AV} {post : AV → Heap → Prop} {rs : List ResultVar} (nt : Nat) (hf : P.funcs[f]? = some fn) (hb : fn.body = some c) (hrs : fn.results = rs.toArray) (hnt : fn.ntmps = nt) (hn : args.length ≤ nt)
    (h : AW P { nt := (0, nt), n0 := 0, ne := H.length } c (retR rs post) (argsE 0 args []) H) : FnR P f args H post := by
  intro X w I μ O vs e1 e2 e3 e4 e5 hm ha
  refine callsIn_of_wp hf hb trivial ?_
  have hlen := ha.length
  let a : Act := { tmps := vs.toArray ++ Array.replicate (fn.ntmps - vs.toArray.size) undef, defers := [] }
  let Y : Snap := { X with nt := (0, nt), dfs := [], args := vs }
  have hat : ∀ (j : Nat) (v : Value), vs[j]? = some v → a.tmps.getD j undef = v := fun j v hj => by
    have hjl : j < vs.length := (List.getElem?_eq_some_iff.1 hj).1
    have e2 : (vs.toArray ++ Array.replicate (fn.ntmps - vs.length) undef)[j]? = some v := by
      rw [Array.getElem?_append_left (by simpa using hjl)]; simpa using hj
    simp [a, e2]
  have hs0 : Sim P Y [] H a w I μ O := by
    refine ⟨hm.cast rfl rfl rfl rfl rfl rfl, fun t => .un, by simp [a, Y, hnt]; omega, rfl, fun t ht => absurd ht (by simp [Y])⟩
  obtain ⟨O1, hs⟩ := hs0.adoptAll (k := 0) ha List.nodup_nil (by simp) (fun _ _ => rfl) fun j v hj => by rw [Nat.zero_add]; exact hat j v hj
  refine wpIn_mono (h Y a w I μ O1 rfl e3 e4 hs) fun e a' w' hp => ?_
  obtain ⟨env', He, I', μ', O', s, q⟩ := hp
  have fin : (∃ r, resOK env' r rs ∧ post r He) → a'.defers = [] ∧ ∃ v, (results fn a'.tmps).run P w' = .ok v w' ∧ ∃ v' I' μ' O' H' r rs, Ending.returned v = .returned v' ∧ Mem P X H' w' I' μ' O' ∧ ARep P w' I' μ' r v' rs ∧ rs.Nodup ∧ (∀ b ∈ rs, ∃ n, O' b = some (.t n)) ∧ post r H' := by
    rintro ⟨r, hres, hpost⟩
    obtain ⟨v, b1, h1, h2, h3, h4⟩ := s.gives hrs hres
    exact ⟨s.dfs.1, v, h1, v, I', μ', O', He, r, b1, rfl, s.toMem.cast rfl rfl rfl rfl rfl rfl, h2, h3, fun b hb => let ⟨t, g, _⟩ := h4 b hb; ⟨t, g⟩, hpost⟩
  cases e with
  | normal => exact fin q
  | ret => exact fin q
  | _ => exact q.elim
end
end Go.FL
/-
  A FUNCTIONAL LOGIC, 44: a box's cell, seen otherwise; slices out of struct values; function values in the printed form.
-/
namespace Go.FL
open Go Go.RowKit

section
variable {P : Program} {C : Cx} {X : Snap} {o : Oper} {ops : Array Oper} {Q : Exit → Env → Heap → Prop} {env env' : Env} {H H' : Heap} {a : Act} {w w' : World} {I I' : Nat → Prop} {μ μ' : List Nat} {O O' : Nat → Option Loc}
  {K : Env → Heap → Prop} {k : Nat} {l : List Oper}

theorem ARepAll.reC {c c' : AV} (hcc : ∀ v bs, ARep P w I μ c v bs → ARep P w I μ c' v bs) : ∀ {cs : List AV} {vs : List Value} {bs : List Nat} (off : Nat), ARepAll P w I μ cs vs bs → cs[off]? = some c → ARepAll P w I μ (cs.set off c') vs bs
  | [], _, _, _, h, hc => by simp at hc
  | x :: xs, _, _, 0, .cons h t, hc => by
    simp at hc; subst hc
    exact .cons (hcc _ _ h) t
  | x :: xs, _, _, off + 1, .cons h t, hc => .cons h (t.reC hcc off (by simpa using hc))
/-- A box's cell, seen otherwise. -/
theorem Gh.cell {id off : Nat} {cs : List AV} {c c' : AV} (hH : H[id]? = some (.box cs)) (hc : cs[off]? = some c) (hno : isOwn c = false) (hcc : ∀ w I μ v bs, ARep P w I μ c v bs → ARep P w I μ c' v bs) :
    Gh P C env H env (H.set id (.box (cs.set off c'))) := fun X a w I μ O _ _ _ hs => by
  have hlt : id < H.length := (List.getElem?_eq_some_iff.1 hH).1
  refine ⟨I, O, ⟨{ hs.toMem with
    μlen := by rw [hs.μlen]; simp
    nle := by simpa using hs.nle
    heap := fun i ob ho => ?_ }, fun t => ?_, hs.nt, hs.dfs⟩⟩
  · by_cases hi : i = id
    · subst hi
      rw [List.getElem?_set_self hlt] at ho
      cases ho
      obtain ⟨blk, bs, h1, h2, h3, h4⟩ := hs.heap i _ hH
      obtain ⟨cells, e, k1, k2⟩ := h2
      exact ⟨blk, bs, h1, ⟨cells, e, k1, k2.reC (hcc w I μ) off hc⟩, h3, h4⟩
    · rw [List.getElem?_set_ne (Ne.symm hi)] at ho
      exact hs.heap i ob ho
  · refine (hs.envr t).keepG (fun _ h => h) (fun _ _ => rfl) (fun _ _ h => h) (fun b hb => ⟨rfl, hb⟩) fun p e xs hp => ⟨?_, fun v hv => hv⟩
    cases p with
    | t r => exact hp
    | c i o =>
      simp only [plAV] at hp ⊢
      by_cases hi : i = id
      · subst hi
        rw [List.getElem?_set_self hlt]
        rw [hH] at hp
        simp only at hp ⊢
        by_cases ho : o = off
        · subst ho
          rw [List.getD_eq_getElem?_getD, hc] at hp
          simp at hp
          rw [hp] at hno; cases hno
        · rw [List.getD_eq_getElem?_getD, List.getElem?_set_ne (Ne.symm ho), ← List.getD_eq_getElem?_getD]; exact hp
      · rw [List.getElem?_set_ne (Ne.symm hi)]; exact hp
end

/-- A function value. -/
structure FW (α β : Type) where
  dv : DV
  g : α → Option β
end Go.FL
/-
  A FUNCTIONAL LOGIC, 45: a struct of two cells, of which one is a slice of the call's own.
-/
namespace Go.FL
open Go Go.RowKit

section
variable {P : Program} {C : Cx} {X : Snap} {o : Oper} {ops : Array Oper} {Q : Exit → Env → Heap → Prop} {env env' : Env} {H H' : Heap} {a : Act} {w w' : World} {I I' : Nat → Prop} {μ μ' : List Nat} {O O' : Nat → Option Loc}
  {K : Env → Heap → Prop} {k : Nat} {l : List Oper}

section
variable {nt : Nat × Nat} {J : JT} {ags : List Value} {QJ : Exit → Env → Heap → Nat → Prop} {n : Nat}
end
end
end Go.FL
/-
  A FUNCTIONAL LOGIC: calls whose first argument is the nil slice itself; slices.Grow of it.
-/
namespace Go.FL
open Go Go.RowKit

/-- A function, the nil slice ahead of its arguments. -/
def FnN (P : Program) (f : FuncId) (args : List DV) (r : AV) : Prop :=
  ∀ (w : World) (I : Nat → Prop) (vs : List Value), (∀ b, I b → b < w.heap.size) → RepAll w I args vs →
    CallsIn (om none) 0 P f (Value.slice none 0 0 :: vs).toArray w fun e w' => ∃ v I' bs, e = .returned v ∧ Below w.heap.size w w' ∧ (∀ b, I b → I' b) ∧
      (∀ b, I' b → b < w'.heap.size ∧ (b < w.heap.size → I b)) ∧ ARep P w' I' [] r v bs ∧ bs.Nodup ∧ ∀ b ∈ bs, w.heap.size ≤ b ∧ b < w'.heap.size ∧ ¬ I' b
section
variable {P : Program} {H : Heap}
theorem FnR.ofFnN {f : FuncId} {xs : List DV} {r : AV} (h : FnN P f xs r) : FnR P f (.nl :: xs.map .d) H fun r' H' => r' = r ∧ H' = H := by
  intro X w I μ O vs0 e1 e2 e3 e4 e5 hm ha
  have hR : ∀ {xs : List DV} {vs : List Value}, ARepAll P w I μ (xs.map AV.d) vs [] → RepAll w I xs vs := by
    intro xs
    induction xs with
    | nil => intro vs h; cases h; exact .nil
    | cons x xs ih =>
      intro vs h
      generalize hbs : ([] : List Nat) = bs at h
      cases h with
      | cons h t =>
        have := hbs.symm
        rw [List.append_eq_nil_iff] at this
        rw [this.2] at t
        cases h with
        | d h => exact .cons h (ih t)
  obtain ⟨vs, rfl, ha2⟩ : ∃ vs, vs0 = Value.slice none 0 0 :: vs ∧ ARepAll P w I μ (xs.map AV.d) vs [] := by
    generalize hbs : ([] : List Nat) = bs at ha
    cases ha with
    | cons h t =>
      have := hbs.symm
      rw [List.append_eq_nil_iff] at this
      obtain ⟨t1, t2⟩ := this
      subst t2
      cases h
      exact ⟨_, rfl, t⟩
  refine (h w I vs hm.ilt (hR ha2)).mono ?_
  rintro e w' ⟨v, I', bs, rfl, q1, q2, q3, q4, q5, q6⟩
  let a : Act := { tmps := #[], defers := [] }
  have hs : Sim P { X with nt := (0, 0), dfs := [], args := [] } [] H a w I μ O := ⟨hm.cast rfl rfl rfl rfl rfl rfl, fun t => .un, rfl, rfl, fun t ht => absurd ht (by simp)⟩
  have s1 := (hs.called q1 q2 q3).newR bs fun b hb => by
    obtain ⟨h1, h2, h3⟩ := q6 b hb
    refine ⟨h2, .inl ?_, h3, fun hk => by have := hs.klt b hk; have := hs.size; omega⟩
    cases hO : O b with
    | none => rfl
    | some l => have := (hs.own b l hO).1; omega
  refine ⟨v, I', μ, _, H, r, bs, rfl, (s1.toMem.relabel (toT 0) fun _ => rfl).cast rfl rfl rfl rfl rfl rfl, q4.keep (fun _ h => h) (fun _ _ => rfl) (fun i b h => by simp at h) fun _ _ => rfl, q5, fun b hb => ⟨0, by simp [hb, toT]⟩, rfl, rfl⟩
/-- What Grow of the nil slice gives, as the world says it. -/
def GrowN (P : Program) (f : FuncId) (e : TypeId) (M : Nat) : Prop := ∀ (n : Nat) (w : World), n ≤ M →
  Calls P f #[.slice none 0 0, .int .i64 n] w fun x w' => (x = .returned (.slice none 0 0) ∧ w' = w) ∨
    (∃ (cap : Nat) (cells : Array Value), 0 < cap ∧ cap ≤ maxLen ∧ cells.size = cap * szOf P e ∧ x = .returned (.slice (some ⟨w.heap.size, 0, none⟩) 0 cap) ∧ w' = w.drew.alloc (.cells cells e))
theorem FnN.grow {f e M : Nat} (hsz : 0 < szOf P e) (h : GrowN P f e M) {n : Nat} (hn : n ≤ M) : FnN P f [.i .i64 n] (.own e []) := by
  intro w I vs hI ha
  have hvs : vs = [.int .i64 n] := by
    cases ha with
    | cons h1 ha => cases ha; cases h1; rfl
  subst hvs
  rw [om_none]
  refine callsIn_wide.2 ((h n w hn).mono fun x w' hx => ?_)
  rcases hx with ⟨rfl, rfl⟩ | ⟨cap, cells, h0, hm, hc, rfl, rfl⟩
  · refine ⟨_, I, [], rfl, Below.refl _ _, fun _ h => h, fun b hb => ⟨hI b hb, fun _ => hb⟩, ?_, List.nodup_nil, nofun⟩
    exact .own e [] (.slice none 0 0) [] hsz (.inl ⟨none, rfl, rfl, rfl⟩) (.nil _)
  · have hlt : w.heap.size < (w.drew.alloc (.cells cells e)).heap.size := (Array.getElem?_eq_some_iff.1 (heap_alloc_new w.drew (.cells cells e))).1
    have ho : OwnR (w.drew.alloc (.cells cells e)) e (szOf P e) (.slice (some ⟨w.heap.size, 0, none⟩) 0 cap) 0 [] := by
      refine .inr ⟨⟨by simp, .inr ⟨w.heap.size, cap, cells, rfl, Nat.zero_le _, heap_alloc_new w.drew _, Nat.zero_le _, hm, hc, by simp⟩⟩, w.heap.size, cap, rfl, h0⟩
    refine ⟨_, I, [w.heap.size], rfl, ?_, fun _ h => h, fun b hb => ⟨Nat.lt_trans (hI b hb) hlt, fun _ => hb⟩, ?_, by simp, fun b hb => ?_⟩
    · exact ((Below.refl _ w).drew).alloc (Nat.le_refl _) _
    · have : [w.heap.size] = ownBs (.slice (some ⟨w.heap.size, 0, none⟩) 0 cap) := by simp [ownBs, Nat.pos_iff_ne_zero.1 h0]
      rw [this]
      exact .own e [] _ [] hsz ho (.nil _)
    · rw [List.mem_singleton] at hb
      subst hb
      exact ⟨Nat.le_refl _, hlt, fun hi => by have := hI _ hi; omega⟩
theorem grow_nl {f e M : Nat} (hsz : 0 < szOf P e) (h : GrowN P f e M) {z : Int} (hz : 0 ≤ z ∧ z ≤ (M : Int)) : FnR P f [.nl, .d (.i .i64 z)] H fun r' H' => r' = .own e [] ∧ H' = H := by
  obtain ⟨n, rfl⟩ : ∃ n : Nat, z = (n : Int) := ⟨z.toNat, by omega⟩
  exact FnR.ofFnN (xs := [.i .i64 (n : Int)]) (FnN.grow hsz h (by omega))
end
section
variable {P : Program} {C : Cx} {o : Oper} {ops : Array Oper} {Q : Exit → Env → Heap → Prop} {env : Env} {H : Heap} {k : Nat} {l : List Oper}
/-- An element of a slice of the call's own is given another value. -/
theorem ste' {α : Type} {F : List α → List DV} {D : α → DV} (hset : ∀ xs n x, (F xs).set n (D x) = F (xs.set n x)) {us : List α} {n m : Nat} {x : α} {y : Operand} {r ty e : Nat} {p : Pl} (hm : m = n) (hx : ∃ z, (F us)[0 + n]? = some z ∧ z.leaf = true)
    (h : RL P C ops Q (k + 1) l (setE p (.own e (F (us.set m x))) env) (setP p (.own e (F (us.set m x))) H)) (hsz : szOf P ty = 1)
    (hg : grd ops env o true = true := by rfl) (ho : o.op = .store ty (.tmp r) y := by rfl) (hv : get env r = .ep p (0 + n) 0 := by rfl) (hp : plAV env H p = .own e (F us) := by rfl) (hy : lk env y = .d (D x) := by rfl) (h1 : (D x).leaf = true := by rfl) (hd : o.dst = none := by rfl)
    (hn : ∀ id off, p = .c id off → C.n0 ≤ id := by (intro _ _ h; cases h <;> decide)) : RL P C ops Q k (o :: l) env H := by
  subst hm
  exact ste hx (by rw [Nat.zero_add, hset]; exact h) hsz hg ho hv hp hy h1 hd hn
end
end Go.FL
/-
  slices.Grow of a nil slice of strings.
-/
namespace Go.Proofs
open Go.RowKit Go.FL
set_option maxHeartbeats 4000000 in
set_option maxRecDepth 100000 in
theorem growS_0 (w : World) : Calls Try.prog 122 #[.slice none 0 0, .int .i64 0] w fun x w' => x = .returned (.slice none 0 0) ∧ w' = w := by
  go_enter Try.func122, Try.ntmps122
  go_wp2
  go_ret
  exact ⟨rfl, rfl⟩
set_option maxHeartbeats 4000000 in
set_option maxRecDepth 100000 in
theorem growS : GrowN Try.prog 122 9 8796093022208 := by
  intro n w hn
  rcases Nat.eq_zero_or_pos n with h0 | h0
  · subst h0
    exact (growS_0 w).mono fun _ _ h => .inl h
  obtain ⟨i0, i1, i2, i3, i4, i5, i6, i7, i8⟩ := elemT_spec ge_Ss
  have hrz : ∀ ty, (Builtin.append_ #[52, 3] ty #[.slice none 0 0, .int .i64 (n : Int)]).run Try.prog w = .ok (.slice (some ⟨w.heap.size, 0, none⟩) n (grownCap w n 0 9)) (w.drew.alloc (.cells (Builtin.zeroCells (Value.string ByteArray.empty).cells n ++ Builtin.zeroCells (Value.string ByteArray.empty).cells (grownCap w n 0 9 - n)) 9)) := fun ty =>
    Lib.run_append_nil_zeros w 52 3 ty 9 i0 (.string ByteArray.empty) .i64 .i64 i1 (by kernel_rfl) i2 i3 n h0 (by omega) (by omega) (by rw [i5]; omega)
  have hg1 := grownCap_ge w n 0 9
  have hg2 := grownCap_le_maxLen w n 0 9 (by unfold maxLen; omega)
  generalize hG : grownCap w n 0 9 = G at *
  have hg3 : G ≤ 9223372036854775807 := by unfold maxLen at hg2; omega
  obtain ⟨cells, hcells⟩ : ∃ cs : Array Value, Builtin.zeroCells (Value.string ByteArray.empty).cells n ++ Builtin.zeroCells (Value.string ByteArray.empty).cells (G - n) = cs := ⟨_, rfl⟩
  rw [hcells] at hrz
  have hsz : cells.size = G * szOf Try.prog 9 := by
    rw [← hcells, i8, Array.size_append, size_zeroCells, size_zeroCells, i6]; omega
  have h1 : ¬ ((n : Int) < 0) := by omega
  have h2 : (n : Int) > 0 := by omega
  have hfin : 0 < G ∧ G ≤ maxLen ∧ cells.size = G * szOf Try.prog 9 := ⟨by omega, hg2, hsz⟩
  clear hsz hcells i1 i2 i3 i4 i5 i6 i7 i8 hg2
  have HF := Lib.hid hfin
  clear hfin
  go_enter Try.func122, Try.ntmps122
  go_wp2_with (at_builtin; refine Lib.wpList_append_run _ rfl _ _ _ _ rfl _ _ rfl rfl _ _ (hrz _) ?_)
  go_ret
  exact .inr ⟨G, HF.out.1, HF.out.2.1, cells, HF.out.2.2, rfl, rfl⟩
end Go.Proofs
/-
  GP: facts of the types of outcomes.
-/
namespace Go.FL
open Go Go.Proofs

abbrev OT := List ByteArray × Int × WT × Int
def Sss (xs : List (List ByteArray)) : List DV := xs.map fun l => .sl (Ss l)
theorem Sss_length (xs : List (List ByteArray)) : (Sss xs).length = xs.length := by simp [Sss]
theorem Sss_at {xs : List (List ByteArray)} {i : Nat} {x : List ByteArray} (h : xs[i]? = some x) : (Sss xs)[i]? = some (.sl (Ss x)) := by simp [Sss, h]
theorem Sss_sz1 (xs : List (List ByteArray)) : ∀ x ∈ Sss xs, x.cells.length = 1 := fun x hx => by
  simp only [Sss, List.mem_map] at hx
  obtain ⟨n, _, rfl⟩ := hx; rfl
theorem Sss_sz (xs : List (List ByteArray)) : ∃ sz, ∀ x ∈ Sss xs, x.cells.length = sz := ⟨1, Sss_sz1 xs⟩
theorem Sss_flat (xs : List (List ByteArray)) : ∀ d ∈ Sss xs, d.flat = true ∧ d.cells.length = 1 := fun x hx => by
  simp only [Sss, List.mem_map] at hx
  obtain ⟨n, _, rfl⟩ := hx
  exact ⟨by simp [DV.flat, DV.cells, DV.leaf], rfl⟩
theorem Ss_set (xs : List ByteArray) (n : Nat) (x : ByteArray) : (Ss xs).set n (.s x) = Ss (xs.set n x) := by simp [Ss, List.map_set]
abbrev GROOM_Ss : Int := ((8796093022208 : Nat) : Int)
theorem gz0_Ss : 0 < szOf Try.prog 9 := by rw [show szOf Try.prog 9 = 1 by kernel_rfl]; decide
theorem grow_Ss : GrowN Try.prog 122 9 8796093022208 := growS
theorem gA_O : aggT Try.prog 75 = some true := by kernel_rfl
theorem gS_O : szOf Try.prog 75 = 7 := by kernel_rfl
theorem gF_O_0 : fieldT Try.prog 75 0 = some (0, 1) := by kernel_rfl
theorem gF_O_1 : fieldT Try.prog 75 1 = some (1, 1) := by kernel_rfl
theorem gF_O_2 : fieldT Try.prog 75 2 = some (2, 4) := by kernel_rfl
theorem gF_P_0 : fieldT Try.prog 79 0 = some (0, 1) := by kernel_rfl
theorem gF_P_1 : fieldT Try.prog 79 1 = some (1, 1) := by kernel_rfl
theorem gF_P_2 : fieldT Try.prog 79 2 = some (2, 4) := by kernel_rfl
theorem gP_P : structT Try.prog 79 = some [(0, 1), (1, 1), (2, 4), (6, 1)] := by kernel_rfl
theorem gI_P : (Try.prog.info? 79).bind (·.zero) = some (.agg #[.slice none 0 0, .int .i64 0, .string ByteArray.empty, .int .i64 0, .string ByteArray.empty, .int .i64 0, .int .i64 0]) := by kernel_rfl
theorem gZ_P (w : World) (I : Nat → Prop) : RepAll w I [.sl [], .i .i64 0, .s ByteArray.empty, .i .i64 0, .s ByteArray.empty, .i .i64 0, .i .i64 0] (Value.agg #[.slice none 0 0, .int .i64 0, .string ByteArray.empty, .int .i64 0, .string ByteArray.empty, .int .i64 0, .int .i64 0]).cells.toList := .cons (.sl0 _ _) (.cons (.i _ _) (.cons (.s _) (.cons (.i _ _) (.cons (.s _) (.cons (.i _ _) (.cons (.i _ _) (.nil)))))))
theorem gs_Sss : sliceT Try.prog 151 = some (52, 1, 24) := by kernel_rfl
theorem ge_Sss : elemT Try.prog 151 = some (52, 1, 24, .slice none 0 0) := by kernel_rfl
theorem gu_Sss : Try.prog.underlying 151 = some (.slice (Try.prog.elem 151)) := by kernel_rfl
end Go.FL
/-
  GP: what became of a line.
-/
namespace Go.FL
open Go Go.Proofs

def slices_Concat_string_string_l1 (a0 : (List (List ByteArray))) (K0 : Int → Option ((List ByteArray))) : Nat → Int → Int → Option ((List ByteArray))
  | 0, _, _ => none
  | k + 1, s2, s3 => (if s3 < ((List.length a0 : Nat) : Int) then (jn (fun (z4 : Int) => (slices_Concat_string_string_l1 a0 K0 k z4 (w64 (s3 + 1)))) fun K2 => ((rd? a0 s3).bind fun x5 => ((grd? (¬ ((w64 (s2 + ((List.length x5 : Nat) : Int))) < 0))).bind fun x6 => (K2 (w64 (s2 + ((List.length x5 : Nat) : Int))))))) else (K0 s2))
def slices_Concat_string_string_l4 (a0 : (List (List ByteArray))) (K3 : (List ByteArray) → Option ((List ByteArray))) : Nat → (List ByteArray) → Int → Option ((List ByteArray))
  | 0, _, _ => none
  | k + 1, s9, s10 => (if s10 < ((List.length a0 : Nat) : Int) then ((rd? a0 s10).bind fun x11 => ((ap? 8796093022208 s9 x11).bind fun x12 => (slices_Concat_string_string_l4 a0 K3 k x12 (w64 (s10 + 1))))) else (K3 s9))
def slices_Concat_string_string (a0 : (List (List ByteArray))) : Option ((List ByteArray)) := (jn (fun (z1 : Int) => ((grd? (0 ≤ z1 ∧ z1 ≤ GROOM_Ss)).bind fun x7 => (jn (fun (z8 : (List ByteArray)) => (some (z8))) fun K3 => (slices_Concat_string_string_l4 a0 K3 FUEL [] 0)))) fun K0 => (slices_Concat_string_string_l1 a0 K0 FUEL 0 0))
theorem slices_Concat_string_string_ok {a0 : (List (List ByteArray))} {r : (List ByteArray)} (h : slices_Concat_string_string a0 = some r) :
    Fn Try.prog 88 [.sl (Sss a0)] (.own 9 (Ss r)) := by
  unfold slices_Concat_string_string at h
  refine Fn.of (rs := [.tmp 2]) (nt := 36) Try.func88 rfl rfl rfl (by simp) rfl ?_
  refine .seq ?_
  refine .region ?_
  refine asn ?_
  refine rn ?_
  refine .gh (Gh.keep [0, 2] rfl) ?_
  refine .seq ?_
  refine .region ?_
  refine asd ?_
  refine rn ?_
  refine .gh (Gh.keep [0, 2, 3] rfl) ?_
  refine .seq ?_
  refine .seq ?_
  refine .region ?_
  refine vk (vmvd) ?_
  refine vk (vlnE (Sss_length _) (Sss_sz _) gu_Sss) ?_
  refine vk (vmvd) ?_
  refine rn ?_
  refine .gh (Gh.keep [0, 2, 3, 9, 10, 11] rfl) ?_
  obtain ⟨K0, hK0, h⟩ := jn_out h
  refine AW.mr (σ := Int) (fun p => K0 p = some r) (fun p => [(0, .d (.sl (Sss a0))), (2, .nl), (3, .d (.i .i64 p))]) (fun p => []) ?_ ?_
  · skip
    refine .block ?_
    refine .loop (.gh (Gh.keep [0, 2, 3, 9, 10, 11] rfl) ?_)
    refine AL.ind (σ := Nat × Int × Int) (m := fun p => p.1) (e := fun p => [(0, .d (.sl (Sss a0))), (2, .nl), (3, .d (.i .i64 p.2.1)), (9, .d (.sl (Sss a0))), (10, .d (.i .i64 ((List.length a0 : Nat) : Int))), (11, .d (.i .i64 p.2.2))]) (h := fun p => []) (I := fun p => slices_Concat_string_string_l1 a0 K0 p.1 p.2.1 p.2.2 = some r) ?_ (FUEL, 0, 0) h
    rintro ⟨k, s2, s3⟩ h ih
    dsimp only at h ih ⊢
    rcases k with _ | k
    · rw [slices_Concat_string_string_l1] at h; cases h
    rw [slices_Concat_string_string_l1] at h
    refine .seq ?_
    refine .region ?_
    refine vk (vbi) ?_
    refine rn ?_
    refine .gh (Gh.keep [0, 2, 3, 9, 10, 11, 12] rfl) ?_
    refine .seq ?_
    by_cases hc : s3 < ((List.length a0 : Nat) : Int)
    · replace h := ite_t hc h
      refine cnt (decide_eq_true hc) ?_
      refine .skip ?_
      show AW _ _ _ _ _ _
      obtain ⟨K2, hK2, h⟩ := jn_out h
      refine AW.mj (σ := Int) (fun p => K2 p = some r) (fun p => [(0, .d (.sl (Sss a0))), (2, .nl), (3, .d (.i .i64 p)), (9, .d (.sl (Sss a0))), (10, .d (.i .i64 ((List.length a0 : Nat) : Int))), (11, .d (.i .i64 s3))]) (fun p => []) ?_ ?_
      · skip
        refine .block ?_
        refine .seq ?_
        refine .region ?_
        obtain ⟨x5, hx5, h⟩ := bnd h
        obtain ⟨nx5, hnx5, hxx5⟩ := rd_some hx5
        refine vk (vix nx5 hnx5 (Sss_at hxx5) rfl gs_Sss) ?_
        refine vk (vldp ga_Ss) ?_
        refine asd ?_
        refine rn ?_
        refine .gh (Gh.keep [0, 2, 3, 5, 9, 10, 11] rfl) ?_
        refine .seq ?_
        refine .region ?_
        refine vk (vmvd) ?_
        refine vk (vmvd) ?_
        refine vk (vlnE (Ss_length _) (Ss_sz _) gu_Ss) ?_
        refine vk (vbi) ?_
        refine asd ?_
        refine rn ?_
        refine .gh (Gh.keep [0, 2, 3, 9, 10, 11] rfl) ?_
        refine .seq ?_
        refine .region ?_
        refine vk (vmvd) ?_
        refine vk (vbi) ?_
        refine rn ?_
        refine .gh (Gh.keep [0, 2, 3, 9, 10, 11, 20] rfl) ?_
        obtain ⟨x6, hx6, h⟩ := bnd h
        have hc := grd_ok hx6
        refine cnf (decide_eq_false hc) ?_
        refine .gh (Gh.keep [0, 2, 3, 9, 10, 11] rfl) ?_
        refine .skip ?_
        exact jr ((w64 (s2 + ((List.length x5 : Nat) : Int)))) h
      rintro z4 h
      try dsimp only at h ⊢
      subst hK2
      refine .region ?_
      refine vk (vbi) ?_
      refine vk (vmvd) ?_
      refine .nil ?_
      refine AL.gh (Gh.keep [0, 2, 3, 9, 10, 11] rfl) ?_
      exact ih (k, z4, (w64 (s3 + 1))) h (Nat.lt_succ_self _)
    replace h := ite_f hc h
    refine cnf (decide_eq_false hc) ?_
    refine .gh (Gh.keep [0, 2, 3] rfl) ?_
    refine .exit ?_
    exact jr (s2) h
  rintro z1 h
  try dsimp only at h ⊢
  subst hK0
  show AW _ _ _ _ _ _
  refine .seq ?_
  refine .region ?_
  refine vk (vmvd) ?_
  obtain ⟨x7, hx7, h⟩ := bnd h
  refine clR (avs := [.nl, .d (.i .i64 z1)]) (grow_nl gz0_Ss grow_Ss (grd_ok hx7)) Try.call122 (fun r' H' hp => ?_)
  obtain ⟨rfl, rfl⟩ := hp
  refine aso ?_
  refine rn ?_
  refine .gh (Gh.keep [0, 2, 6] rfl) ?_
  refine .seq ?_
  refine .seq ?_
  refine .region ?_
  refine vk (vmvd) ?_
  refine vk (vlnE (Sss_length _) (Sss_sz _) gu_Sss) ?_
  refine vk (vmvd) ?_
  refine rn ?_
  refine .gh (Gh.keep [2, 6, 25, 26, 27] rfl) ?_
  obtain ⟨K3, hK3, h⟩ := jn_out h
  refine AW.mr (σ := (List ByteArray)) (fun p => K3 p = some r) (fun p => [(2, .nl), (6, .own 9 (Ss p))]) (fun p => []) ?_ ?_
  · skip
    refine .block ?_
    refine .loop (.gh (Gh.keep [2, 6, 25, 26, 27] rfl) ?_)
    refine AL.ind (σ := Nat × (List ByteArray) × Int) (m := fun p => p.1) (e := fun p => [(2, .nl), (6, .own 9 (Ss p.2.1)), (25, .d (.sl (Sss a0))), (26, .d (.i .i64 ((List.length a0 : Nat) : Int))), (27, .d (.i .i64 p.2.2))]) (h := fun p => []) (I := fun p => slices_Concat_string_string_l4 a0 K3 p.1 p.2.1 p.2.2 = some r) ?_ (FUEL, [], 0) h
    rintro ⟨k, s9, s10⟩ h ih
    dsimp only at h ih ⊢
    rcases k with _ | k
    · rw [slices_Concat_string_string_l4] at h; cases h
    rw [slices_Concat_string_string_l4] at h
    refine .seq ?_
    refine .region ?_
    refine vk (vbi) ?_
    refine rn ?_
    refine .gh (Gh.keep [2, 6, 25, 26, 27, 28] rfl) ?_
    refine .seq ?_
    by_cases hc : s10 < ((List.length a0 : Nat) : Int)
    · replace h := ite_t hc h
      refine cnt (decide_eq_true hc) ?_
      refine .skip ?_
      show AW _ _ _ _ _ _
      refine .seq ?_
      refine .block ?_
      refine .seq ?_
      refine .region ?_
      obtain ⟨x11, hx11, h⟩ := bnd h
      obtain ⟨nx11, hnx11, hxx11⟩ := rd_some hx11
      refine vk (vix nx11 hnx11 (Sss_at hxx11) rfl gs_Sss) ?_
      refine vk (vldp ga_Ss) ?_
      refine asd ?_
      refine rn ?_
      refine .gh (Gh.keep [2, 6, 8, 25, 26, 27] rfl) ?_
      refine .region ?_
      refine mvo ?_
      refine vk (vmvd) ?_
      obtain ⟨x12, hx12, h⟩ := bnd h
      refine apr' Ss_app hx12 gB_Ss ?_ Ss_sz1 Ss_length ge_Ss
      refine aso ?_
      refine .nil ?_
      show AW _ _ _ _ _ _
      refine .gh (Gh.keep [2, 6, 25, 26, 27] rfl) ?_
      refine .region ?_
      refine vk (vbi) ?_
      refine vk (vmvd) ?_
      refine .nil ?_
      refine AL.gh (Gh.keep [2, 6, 25, 26, 27] rfl) ?_
      exact ih (k, x12, (w64 (s10 + 1))) h (Nat.lt_succ_self _)
    replace h := ite_f hc h
    refine cnf (decide_eq_false hc) ?_
    refine .gh (Gh.keep [2, 6] rfl) ?_
    refine .exit ?_
    exact jr (s9) h
  rintro z8 h
  try dsimp only at h ⊢
  subst hK3
  show AW _ _ _ _ _ _
  refine .seq ?_
  refine .region ?_
  refine mvoo ?_
  refine aso ?_
  refine rn ?_
  refine .gh (Gh.keep [2] rfl) ?_
  refine .ret ?_
  cases h
  exact ⟨rfl, rfl⟩

def report_Outcome (a0 : OT) : Option ((List ByteArray)) := ((report_Lines a0.2.1 a0.2.2.1).bind fun x1 => ((slices_Concat_string_string ([a0.1, x1])).bind fun x2 => (some (x2))))
theorem report_Outcome_ok {a0 : OT} {r : (List ByteArray)} (h : report_Outcome a0 = some r) :
    Fn Try.prog 49 [.ag [.sl (Ss a0.1), .i .i64 a0.2.1, .s a0.2.2.1.1, .i .i64 a0.2.2.1.2.1, .s a0.2.2.1.2.2.1, .i .i64 a0.2.2.1.2.2.2, .i .i64 a0.2.2.2]] (.own 9 (Ss r)) := by
  unfold report_Outcome at h
  refine Fn.of (rs := [.tmp 2]) (nt := 12) Try.func49 rfl rfl rfl (by simp) rfl ?_
  refine .seq ?_
  refine .region ?_
  refine vk (vbx) ?_
  refine asn ?_
  refine rn ?_
  refine .gh (Gh.keep [1, 2] rfl) ?_
  refine .seq ?_
  refine .drawn 9 mixed (by kernel_rfl) ?_
  refine dv (vfa gF_O_0) ?_
  refine dv (vldp ga_Ss) ?_
  refine dv (vfa gF_O_1) ?_
  refine dv (vldp ga_Errno) ?_
  refine dv (vfa gF_O_2) ?_
  refine dv (vlda gA_W gS_W) ?_
  obtain ⟨x1, hx1, h⟩ := bnd h
  refine dv (vcl0 (report_Lines_ok hx1) Try.call27) ?_
  refine dv ((vbsl (Sss_flat [a0.1, x1]) ge_Sss).deep) ?_
  obtain ⟨x2, hx2, h⟩ := bnd h
  refine dv (vcl0 (slices_Concat_string_string_ok hx2) Try.call88) ?_
  refine dz ?_
  refine aso ?_
  refine rn ?_
  refine .gh (Gh.keep [2] rfl) ?_
  refine .ret ?_
  cases h
  exact ⟨rfl, rfl⟩

def ref14_Outcome (a0 : OT) : Option ((List ByteArray)) := ((ap? 8796093022208 [] a0.1).bind fun x1 => ((ref14_Lines a0.2.1 a0.2.2.1).bind fun x2 => ((ap? 8796093022208 x1 x2).bind fun x3 => (some (x3)))))
theorem ref14_Outcome_ok {a0 : OT} {r : (List ByteArray)} (h : ref14_Outcome a0 = some r) :
    Fn Try.prog 50 [.ag [.sl (Ss a0.1), .i .i64 a0.2.1, .s a0.2.2.1.1, .i .i64 a0.2.2.1.2.1, .s a0.2.2.1.2.2.1, .i .i64 a0.2.2.1.2.2.2, .i .i64 a0.2.2.2]] (.d (.sl (Ss r))) := by
  unfold ref14_Outcome at h
  refine Fn.of (rs := [.tmp 2]) (nt := 15) Try.func50 rfl rfl rfl (by simp) rfl ?_
  refine .seq ?_
  refine .region ?_
  refine vk (vbx) ?_
  refine asn ?_
  refine rn ?_
  refine .gh (Gh.keep [1, 2] rfl) ?_
  refine .seq ?_
  refine .region ?_
  refine asn ?_
  refine rn ?_
  refine .gh (Gh.keep [1, 2, 3] rfl) ?_
  refine .seq ?_
  refine .region ?_
  refine mvn ?_
  refine vk (vfa gF_P_0) ?_
  refine vk (vldp ga_Ss) ?_
  obtain ⟨x1, hx1, h⟩ := bnd h
  refine apn' hx1 gB_Ss ?_ Ss_sz1 Ss_length ge_Ss
  refine aso ?_
  refine rn ?_
  refine .gh (Gh.keep [1, 2, 3] rfl) ?_
  refine .seq ?_
  refine .region ?_
  refine mvo ?_
  refine vk (vfa gF_P_1) ?_
  refine vk (vldp ga_Errno) ?_
  refine vk (vfa gF_P_2) ?_
  refine vk (vlda gA_V gS_V) ?_
  obtain ⟨x2, hx2, h⟩ := bnd h
  refine vk (vcl0 (ref14_Lines_ok hx2) Try.call28) ?_
  obtain ⟨x3, hx3, h⟩ := bnd h
  refine apr' Ss_app hx3 gB_Ss ?_ Ss_sz1 Ss_length ge_Ss
  refine aso ?_
  refine rn ?_
  refine .gh (Gh.keep [2] rfl) ?_
  refine .gh (Gh.frz (p := .t 2) rfl (by (intro _ _ h; cases h <;> decide))) ?_
  refine .ret ?_
  cases h
  exact ⟨rfl, rfl⟩
end Go.FL
