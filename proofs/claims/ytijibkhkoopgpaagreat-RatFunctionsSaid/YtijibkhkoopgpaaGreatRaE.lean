/-
  Part 5 of the base of the proofs: a logic of our own over the calculus, the contracts of the functions
-/
import Derived.Test.YtijibkhkoopgpaaGreatRaD
set_option linter.unusedVariables false
/-
  GP: rat: numbers out of texts.
-/
namespace Go.FL
open Go Go.Proofs

def unicode_utf8_RuneCountInString_l0 (a0 : ByteArray) : Nat → Int → Nat → Option (Int)
  | 0, _, _ => none
  | k + 1, s1, s2 => (if s2 < ByteArray.size a0 then (unicode_utf8_RuneCountInString_l0 a0 k (w64 (s1 + 1)) (rnext a0 s2)) else (some (s1)))
def unicode_utf8_RuneCountInString (a0 : ByteArray) : Option (Int) := (unicode_utf8_RuneCountInString_l0 a0 FUEL 0 0)
theorem unicode_utf8_RuneCountInString_ok {a0 : ByteArray} {r : Int} (h : unicode_utf8_RuneCountInString a0 = some r) :
    Fn Tryz.prog 72 [.s a0] (.d (.i .i64 r)) := by
  unfold unicode_utf8_RuneCountInString at h
  refine Fn.of (rs := [.tmp 2]) (nt := 10) Tryz.func72 rfl rfl rfl (by simp) rfl ?_
  refine .seq ?_
  refine .region ?_
  refine asd ?_
  refine rn ?_
  refine .gh (Gh.keep [0, 2] rfl) ?_
  refine .seq ?_
  refine .seq ?_
  refine .region ?_
  refine vk (vmvd) ?_
  refine vk (vrng st) ?_
  refine rn ?_
  refine .gh (Gh.keep [2, 4] rfl) ?_
  refine .block ?_
  refine .loop (.gh (Gh.keep [2, 4] rfl) ?_)
  refine AL.ind (σ := Nat × Int × Nat) (m := fun p => p.1) (e := fun p => [(2, .d (.i .i64 p.2.1)), (4, .it a0 p.2.2)]) (h := fun p => []) (I := fun p => unicode_utf8_RuneCountInString_l0 a0 p.1 p.2.1 p.2.2 = some r) ?_ (FUEL, 0, 0) h
  rintro ⟨k, s1, s2⟩ h ih
  dsimp only at h ih ⊢
  rcases k with _ | k
  · rw [unicode_utf8_RuneCountInString_l0] at h; cases h
  rw [unicode_utf8_RuneCountInString_l0] at h
  refine .seq ?_
  refine .region ?_
  by_cases hc : s2 < ByteArray.size a0
  · replace h := ite_t hc h
    refine nxt ?_ hc
    refine vk (vex) ?_
    refine rn ?_
    refine .gh (Gh.keep [2, 4, 6] rfl) ?_
    refine .seq ?_
    refine cndt ?_
    refine .skip ?_
    show AW _ _ _ _ _ _
    refine .block ?_
    refine .region ?_
    refine vk (vmvd) ?_
    refine vk (vbi) ?_
    refine asd ?_
    refine .nil ?_
    refine AL.gh (Gh.keep [2, 4] rfl) ?_
    exact ih (k, (w64 (s1 + 1)), (rnext a0 s2)) h (Nat.lt_succ_self _)
  replace h := ite_f hc h
  refine nxe ?_ hc
  refine vk (vex) ?_
  refine rn ?_
  refine .gh (Gh.keep [2, 4, 6] rfl) ?_
  refine .seq ?_
  refine cndf ?_
  refine .exit ?_
  show AW _ _ _ _ _ _
  refine .seq ?_
  refine .region ?_
  refine vk (vmvd) ?_
  refine asd ?_
  refine rn ?_
  refine .gh (Gh.keep [2] rfl) ?_
  refine .ret ?_
  cases h
  exact ⟨rfl, rfl⟩

def rat_parts_l0 (a0 : ByteArray) : Nat → Bool → ByteArray → Int → ByteArray → Nat → Option (Bool × ByteArray × Int × ByteArray)
  | 0, _, _, _, _, _ => none
  | k + 1, s1, s2, s3, s4, s5 => (if s5 < ByteArray.size a0 then (if ((decide (((s5 : Nat) : Int) = 0)) && (decide ((rune a0 s5) = 175))) = true then (rat_parts_l0 a0 k true s2 s3 s4 (rnext a0 s5)) else (if ((decide (s3 = 0)) && ((decide ((rune a0 s5) = 46)) || (decide ((rune a0 s5) = 114)))) = true then (rat_parts_l0 a0 k s1 s2 (rune a0 s5) s4 (rnext a0 s5)) else (if s3 = 0 then ((sap? s2 (Utf8.encode (rune a0 s5))).bind fun x6 => (rat_parts_l0 a0 k s1 x6 s3 s4 (rnext a0 s5))) else ((sap? s4 (Utf8.encode (rune a0 s5))).bind fun x7 => (rat_parts_l0 a0 k s1 s2 s3 x7 (rnext a0 s5)))))) else (some (s1, s2, s3, s4)))
def rat_parts (a0 : ByteArray) : Option (Bool × ByteArray × Int × ByteArray) := (rat_parts_l0 a0 FUEL false (⟨#[]⟩ : ByteArray) 0 (⟨#[]⟩ : ByteArray) 0)
theorem rat_parts_ok {a0 : ByteArray} {r : Bool × ByteArray × Int × ByteArray} (h : rat_parts a0 = some r) :
    Fn Tryz.prog 73 [.s a0] (.tup [.d (.b r.1), .d (.s r.2.1), .d (.i .i32 r.2.2.1), .d (.s r.2.2.2)]) := by
  unfold rat_parts at h
  refine Fn.ofA (rs := [.tmp 2, .tmp 3, .tmp 4, .tmp 5]) (nt := 48) Tryz.func73 rfl rfl rfl (by simp) rfl ?_
  refine .seq ?_
  refine .region ?_
  refine asd ?_
  refine asd ?_
  refine asd ?_
  refine asd ?_
  refine rn ?_
  refine .gh (Gh.keep [0, 2, 3, 4, 5] rfl) ?_
  refine .seq ?_
  refine .seq ?_
  refine .region ?_
  refine vk (vmvd) ?_
  refine vk (vrng st) ?_
  refine rn ?_
  refine .gh (Gh.keep [2, 3, 4, 5, 9] rfl) ?_
  refine .block ?_
  refine .loop (.gh (Gh.keep [2, 3, 4, 5, 9] rfl) ?_)
  refine AL.ind (σ := Nat × Bool × ByteArray × Int × ByteArray × Nat) (m := fun p => p.1) (e := fun p => [(2, .d (.b p.2.1)), (3, .d (.s p.2.2.1)), (4, .d (.i .i32 p.2.2.2.1)), (5, .d (.s p.2.2.2.2.1)), (9, .it a0 p.2.2.2.2.2)]) (h := fun p => []) (I := fun p => rat_parts_l0 a0 p.1 p.2.1 p.2.2.1 p.2.2.2.1 p.2.2.2.2.1 p.2.2.2.2.2 = some r) ?_ (FUEL, false, (⟨#[]⟩ : ByteArray), 0, (⟨#[]⟩ : ByteArray), 0) h
  rintro ⟨k, s1, s2, s3, s4, s5⟩ h ih
  dsimp only at h ih ⊢
  rcases k with _ | k
  · rw [rat_parts_l0] at h; cases h
  rw [rat_parts_l0] at h
  refine .seq ?_
  refine .region ?_
  by_cases hc : s5 < ByteArray.size a0
  · replace h := ite_t hc h
    refine nxt ?_ hc
    refine vk (vex) ?_
    refine rn ?_
    refine .gh (Gh.keep [2, 3, 4, 5, 9, 10, 11] rfl) ?_
    refine .seq ?_
    refine cndt ?_
    refine .skip ?_
    show AW _ _ _ _ _ _
    refine .block ?_
    refine .seq ?_
    refine .region ?_
    refine vk (vex) ?_
    refine vk (vex) ?_
    refine asd ?_
    refine asd ?_
    refine rn ?_
    refine .gh (Gh.keep [2, 3, 4, 5, 6, 7, 9] rfl) ?_
    refine .block ?_
    refine .seq ?_
    refine AW.mr (σ := Unit) (fun _ => True) (fun _ => [(2, .d (.b s1)), (3, .d (.s s2)), (4, .d (.i .i32 s3)), (5, .d (.s s4)), (7, .d (.i .i32 (rune a0 s5))), (9, .it a0 (rnext a0 s5)), (18, .d (.b ((decide (((s5 : Nat) : Int) = 0)) && (decide ((rune a0 s5) = 175)))))]) (fun _ => []) ?_ ?_
    · skip
      refine .region ?_
      refine vk (vmvd) ?_
      refine vk (vbi) ?_
      by_cases hc : ((s5 : Nat) : Int) = 0
      · have hb0 : (decide (((s5 : Nat) : Int) = 0)) = true := (decide_eq_true hc)
        refine vk (VOK.lit (vmvd) hb0) ?_
        refine vk (vmvd) ?_
        refine vk (vbi) ?_
        refine vk (vpkd) ?_
        refine asd ?_
        refine RL.gh (Gh.keep [2, 3, 4, 5, 7, 9, 18] rfl) ?_
        refine .nil ?_
        exact jr () trivial (by simp only [hb0]; rfl)
      have hb0 : (decide (((s5 : Nat) : Int) = 0)) = false := (decide_eq_false hc)
      refine vk (VOK.lit (vmvd) hb0) ?_
      refine gf ?_
      refine gf ?_
      refine vk (vpkd) ?_
      refine asd ?_
      refine RL.gh (Gh.keep [2, 3, 4, 5, 7, 9, 18] rfl) ?_
      refine .nil ?_
      exact jr () trivial (by simp only [hb0]; rfl)
    rintro _ _
    by_cases hc : ((decide (((s5 : Nat) : Int) = 0)) && (decide ((rune a0 s5) = 175))) = true
    · replace h := ite_t hc h
      refine cnt hc ?_
      refine .region ?_
      refine asd ?_
      refine .nil ?_
      refine AL.gh (Gh.keep [2, 3, 4, 5, 9] rfl) ?_
      exact ih (k, true, s2, s3, s4, (rnext a0 s5)) h (Nat.lt_succ_self _)
    replace h := ite_f hc h
    refine cnf (bf hc) ?_
    refine .seq ?_
    refine AW.mr (σ := Unit) (fun _ => True) (fun _ => [(2, .d (.b s1)), (3, .d (.s s2)), (4, .d (.i .i32 s3)), (5, .d (.s s4)), (7, .d (.i .i32 (rune a0 s5))), (9, .it a0 (rnext a0 s5)), (25, .d (.b ((decide (s3 = 0)) && ((decide ((rune a0 s5) = 46)) || (decide ((rune a0 s5) = 114))))))]) (fun _ => []) ?_ ?_
    · skip
      refine .region ?_
      refine vk (vmvd) ?_
      refine vk (vbi) ?_
      by_cases hc : s3 = 0
      · have hb0 : (decide (s3 = 0)) = true := (decide_eq_true hc)
        refine vk (VOK.lit (vmvd) hb0) ?_
        refine vk (vmvd) ?_
        refine vk (vbi) ?_
        by_cases hc : (rune a0 s5) = 46
        · have hb1 : (decide ((rune a0 s5) = 46)) = true := (decide_eq_true hc)
          refine vk (VOK.lit (vmvd) hb1) ?_
          refine gf ?_
          refine gf ?_
          refine vk (vpkd) ?_
          refine vk (vpkd) ?_
          refine asd ?_
          refine RL.gh (Gh.keep [2, 3, 4, 5, 7, 9, 25] rfl) ?_
          refine .nil ?_
          exact jr () trivial (by simp only [hb0, hb1]; rfl)
        have hb1 : (decide ((rune a0 s5) = 46)) = false := (decide_eq_false hc)
        refine vk (VOK.lit (vmvd) hb1) ?_
        refine vk (vmvd) ?_
        refine vk (vbi) ?_
        refine vk (vpkd) ?_
        refine vk (vpkd) ?_
        refine asd ?_
        refine RL.gh (Gh.keep [2, 3, 4, 5, 7, 9, 25] rfl) ?_
        refine .nil ?_
        exact jr () trivial (by simp only [hb0, hb1]; rfl)
      have hb0 : (decide (s3 = 0)) = false := (decide_eq_false hc)
      refine vk (VOK.lit (vmvd) hb0) ?_
      refine gf ?_
      refine gf ?_
      refine gfu ?_
      refine gf ?_
      refine gf ?_
      refine gf ?_
      refine vk (vpkd) ?_
      refine asd ?_
      refine RL.gh (Gh.keep [2, 3, 4, 5, 7, 9, 25] rfl) ?_
      refine .nil ?_
      exact jr () trivial (by simp only [hb0]; rfl)
    rintro _ _
    by_cases hc : ((decide (s3 = 0)) && ((decide ((rune a0 s5) = 46)) || (decide ((rune a0 s5) = 114)))) = true
    · replace h := ite_t hc h
      refine cnt hc ?_
      refine .region ?_
      refine vk (vmvd) ?_
      refine asd ?_
      refine .nil ?_
      refine AL.gh (Gh.keep [2, 3, 4, 5, 9] rfl) ?_
      exact ih (k, s1, s2, (rune a0 s5), s4, (rnext a0 s5)) h (Nat.lt_succ_self _)
    replace h := ite_f hc h
    refine cnf (bf hc) ?_
    refine .seq ?_
    refine .region ?_
    refine vk (vmvd) ?_
    refine vk (vbi) ?_
    refine asd ?_
    refine rn ?_
    refine .gh (Gh.keep [2, 3, 4, 5, 7, 9, 37] rfl) ?_
    by_cases hc : s3 = 0
    · replace h := ite_t hc h
      refine cnt (decide_eq_true hc) ?_
      refine .region ?_
      refine vk (vmvd) ?_
      refine vk (vmvd) ?_
      refine vk (vcrs (by rw [gk_int32]; rfl) st) ?_
      obtain ⟨x6, hx6, h⟩ := bnd h
      refine vk (vsa hx6) ?_
      refine asd ?_
      refine .nil ?_
      refine AL.gh (Gh.keep [2, 3, 4, 5, 9] rfl) ?_
      exact ih (k, s1, x6, s3, s4, (rnext a0 s5)) h (Nat.lt_succ_self _)
    replace h := ite_f hc h
    refine cnf (decide_eq_false hc) ?_
    refine .region ?_
    refine vk (vmvd) ?_
    refine vk (vmvd) ?_
    refine vk (vcrs (by rw [gk_int32]; rfl) st) ?_
    obtain ⟨x7, hx7, h⟩ := bnd h
    refine vk (vsa hx7) ?_
    refine asd ?_
    refine .nil ?_
    refine AL.gh (Gh.keep [2, 3, 4, 5, 9] rfl) ?_
    exact ih (k, s1, s2, s3, x7, (rnext a0 s5)) h (Nat.lt_succ_self _)
  replace h := ite_f hc h
  refine nxe ?_ hc
  refine vk (vex) ?_
  refine rn ?_
  refine .gh (Gh.keep [2, 3, 4, 5, 9, 10, 11] rfl) ?_
  refine .seq ?_
  refine cndf ?_
  refine .exit ?_
  show AW _ _ _ _ _ _
  refine .seq ?_
  refine .region ?_
  refine vk (vmvd) ?_
  refine vk (vmvd) ?_
  refine vk (vmvd) ?_
  refine vk (vmvd) ?_
  refine asd ?_
  refine asd ?_
  refine asd ?_
  refine asd ?_
  refine rn ?_
  refine .gh (Gh.keep [2, 3, 4, 5] rfl) ?_
  refine .ret ?_
  cases h
  exact ⟨_, _, _, _, rfl, rfl, rfl, rfl, rfl⟩

def rat_Parse_l1 (x2 : Bool × ByteArray × Int × ByteArray) (x3 : (List Nat) × Bool) (x4 : (List Nat) × Bool) (K0 : (List Nat) → (List Nat) → Option (RT × Int)) : Nat → (List Nat) → Nat → Option (RT × Int)
  | 0, _, _ => none
  | k + 1, s8, s9 => (if s9 < ByteArray.size x2.2.2.2 then ((nProduct ([s8, [10]])).bind fun x10 => (rat_Parse_l1 x2 x3 x4 K0 k x10 (rnext x2.2.2.2 s9))) else ((nProduct ([x3.1, s8])).bind fun x11 => ((nSum ([x11, x4.1])).bind fun x12 => (K0 x12 s8))))
def rat_Parse (a0 : ByteArray) : Option (RT × Int) := ((unicode_utf8_RuneCountInString a0).bind fun x1 => (if 700 < x1 then (some ((false, [], []), 8)) else ((rat_parts a0).bind fun x2 => ((nParse x2.2.1).bind fun x3 => ((nParse x2.2.2.2).bind fun x4 => (ratOne.bind fun x5 => (jn (fun (z6 : (List Nat)) (z7 : (List Nat)) => ((ratMake x2.1 z6 z7).bind fun x13 => (some (x13.1, x13.2)))) fun K0 => (if ((!x3.2) || (bif (!(decide (x2.2.2.1 = 0))) then ((!x4.2) || ((decide (x2.2.2.1 = 114)) && (decide (((List.length x4.1 : Nat) : Int) = 0)))) else ((decide (x2.2.2.1 = 114)) && (decide (((List.length x4.1 : Nat) : Int) = 0))))) = true then (some ((false, [], []), 22)) else (if x2.2.2.1 = 114 then (K0 x3.1 x4.1) else (if x2.2.2.1 = 46 then (rat_Parse_l1 x2 x3 x4 K0 FUEL x5 0) else (K0 x3.1 x5)))))))))))
theorem rat_Parse_ok {a0 : ByteArray} {r : RT × Int} (h : rat_Parse a0 = some r) :
    Fn Tryz.prog 27 [.s a0] (.tup [.d (.ag [.b r.1.1, .sl (L r.1.2.1), .sl (L r.1.2.2)]), .d (.i .i64 r.2)]) := by
  unfold rat_Parse at h
  refine Fn.ofC (rs := [.cell 2 24, .tmp 3]) (nt := 84) Tryz.func27 rfl rfl rfl (by simp) rfl ?_
  refine .seq ?_
  refine .region ?_
  refine vk (van (zero_of gI_R) gZ_R) ?_
  refine asd ?_
  refine rn ?_
  refine .gh (Gh.keep [0, 2, 3] rfl) ?_
  refine .seq ?_
  refine .seq ?_
  refine .region ?_
  refine vk (vmvd) ?_
  obtain ⟨x1, hx1, h⟩ := bnd h
  refine vk (vcl0 (unicode_utf8_RuneCountInString_ok hx1) Tryz.call72) ?_
  refine vk (vbi) ?_
  refine rn ?_
  refine .gh (Gh.keep [0, 2, 3, 15] rfl) ?_
  by_cases hc : 700 < x1
  · replace h := ite_t hc h
    refine cnt (decide_eq_true hc) ?_
    refine .seq ?_
    refine .region ?_
    refine vk (vbd gP_R gI_R gZ_R) ?_
    refine stn ?_ gS_R (by decide)
    refine asd ?_
    refine rn ?_
    refine .gh (Gh.keep [0, 2, 3] rfl) ?_
    refine .ret ?_
    cases h
    exact ⟨_, _, ⟨.inr rfl, gA_R, gS_R, (by decide : (0 : Nat) < 3)⟩, rfl, rfl⟩
  replace h := ite_f hc h
  refine cnf (decide_eq_false hc) ?_
  refine .skip ?_
  show AW _ _ _ _ _ _
  refine .seq ?_
  refine .region ?_
  refine vk (vmvd) ?_
  obtain ⟨x2, hx2, h⟩ := bnd h
  refine vk (VOK.tupd (vs := [.b x2.1, .s x2.2.1, .i .i32 x2.2.2.1, .s x2.2.2.2]) (vcl0 (rat_parts_ok hx2) Tryz.call73)) ?_
  refine vk (vmvd) ?_
  refine vk (vex) ?_
  refine vk (vex) ?_
  refine vk (vex) ?_
  refine vk (vex) ?_
  refine asd ?_
  refine asd ?_
  refine asd ?_
  refine asd ?_
  refine rn ?_
  refine .gh (Gh.keep [2, 3, 4, 5, 6, 7] rfl) ?_
  refine .seq ?_
  refine .region ?_
  refine vk (vmvd) ?_
  obtain ⟨x3, hx3, h⟩ := bnd h
  refine vk (VOK.tupd (vs := [.sl (L x3.1), .b x3.2]) (vcl0 (nParse_ok hx3) Tryz.call74)) ?_
  refine vk (vmvd) ?_
  refine vk (vex) ?_
  refine vk (vex) ?_
  refine asd ?_
  refine asd ?_
  refine rn ?_
  refine .gh (Gh.keep [2, 3, 4, 6, 7, 8, 9] rfl) ?_
  refine .seq ?_
  refine .region ?_
  refine vk (vmvd) ?_
  obtain ⟨x4, hx4, h⟩ := bnd h
  refine vk (VOK.tupd (vs := [.sl (L x4.1), .b x4.2]) (vcl0 (nParse_ok hx4) Tryz.call74)) ?_
  refine vk (vmvd) ?_
  refine vk (vex) ?_
  refine vk (vex) ?_
  refine asd ?_
  refine asd ?_
  refine rn ?_
  refine .gh (Gh.keep [2, 3, 4, 6, 7, 8, 9, 10, 11] rfl) ?_
  refine .seq ?_
  refine .region ?_
  obtain ⟨x5, hx5, h⟩ := bnd h
  refine vk ((vcl0 (ratOne_ok hx5) Tryz.call34).deep) ?_
  refine asd ?_
  refine rn ?_
  refine .gh (Gh.keep [2, 3, 4, 6, 7, 8, 9, 10, 11, 12] rfl) ?_
  obtain ⟨K0, hK0, h⟩ := jn_out h
  refine AW.mj (σ := (List Nat) × (List Nat)) (fun p => K0 p.1 p.2 = some r) (fun p => [(2, .nb [.b false, .sl (L []), .sl (L [])]), (3, .d (.i .i64 0)), (4, .d (.b x2.1)), (8, .d (.sl (L p.1))), (12, .d (.sl (L p.2)))]) (fun p => []) ?_ ?_
  · skip
    refine .block ?_
    refine .seq ?_
    refine AW.mr (σ := Unit) (fun _ => True) (fun _ => [(2, .nb [.b false, .sl (L []), .sl (L [])]), (3, .d (.i .i64 0)), (4, .d (.b x2.1)), (6, .d (.i .i32 x2.2.2.1)), (7, .d (.s x2.2.2.2)), (8, .d (.sl (L x3.1))), (10, .d (.sl (L x4.1))), (12, .d (.sl (L x5))), (35, .d (.b ((!x3.2) || (bif (!(decide (x2.2.2.1 = 0))) then ((!x4.2) || ((decide (x2.2.2.1 = 114)) && (decide (((List.length x4.1 : Nat) : Int) = 0)))) else ((decide (x2.2.2.1 = 114)) && (decide (((List.length x4.1 : Nat) : Int) = 0)))))))]) (fun _ => []) ?_ ?_
    · skip
      refine .region ?_
      refine vk (vmvd) ?_
      refine vk (vnt) ?_
      by_cases hc : x3.2 = true
      · have hb0 : (!x3.2) = false := (ntf hc)
        refine vk (VOK.lit (vmvd) hb0) ?_
        refine vk (vmvd) ?_
        refine vk (vbi) ?_
        by_cases hc : x2.2.2.1 = 0
        · have hb1 : (!(decide (x2.2.2.1 = 0))) = false := (ntf (decide_eq_true hc))
          refine vk (VOK.lit (vmvd) hb1) ?_
          refine gf ?_
          refine gf ?_
          refine vk (vpkd) ?_
          refine vk (vpkd) ?_
          refine vk (vmvd) ?_
          refine vk (vmvd) ?_
          refine vk (vbi) ?_
          by_cases hc : x2.2.2.1 = 114
          · have hb2 : (decide (x2.2.2.1 = 114)) = true := (decide_eq_true hc)
            refine vk (VOK.lit (vmvd) hb2) ?_
            refine vk (vmvd) ?_
            refine vk (vlnE (L_length _) (L_sz _) gu_L) ?_
            refine vk (vbi) ?_
            refine vk (vpkd) ?_
            refine vk (vpkd) ?_
            refine asd ?_
            refine RL.gh (Gh.keep [2, 3, 4, 6, 7, 8, 10, 12, 35] rfl) ?_
            refine .nil ?_
            exact jr () trivial (by simp only [hb0, hb1, hb2]; rfl)
          have hb2 : (decide (x2.2.2.1 = 114)) = false := (decide_eq_false hc)
          refine vk (VOK.lit (vmvd) hb2) ?_
          refine gf ?_
          refine gf ?_
          refine gf ?_
          refine vk (vpkd) ?_
          refine vk (vpkd) ?_
          refine asd ?_
          refine RL.gh (Gh.keep [2, 3, 4, 6, 7, 8, 10, 12, 35] rfl) ?_
          refine .nil ?_
          exact jr () trivial (by simp only [hb0, hb1, hb2]; rfl)
        have hb1 : (!(decide (x2.2.2.1 = 0))) = true := (ntt (decide_eq_false hc))
        refine vk (VOK.lit (vmvd) hb1) ?_
        refine vk (vmvd) ?_
        refine vk (vnt) ?_
        refine vk (vpkd) ?_
        refine vk (vpkd) ?_
        by_cases hc : x4.2 = true
        · have hb2 : (!x4.2) = false := (ntf hc)
          refine vk (VOK.lit (vmvd) hb2) ?_
          refine vk (vmvd) ?_
          refine vk (vbi) ?_
          by_cases hc : x2.2.2.1 = 114
          · have hb3 : (decide (x2.2.2.1 = 114)) = true := (decide_eq_true hc)
            refine vk (VOK.lit (vmvd) hb3) ?_
            refine vk (vmvd) ?_
            refine vk (vlnE (L_length _) (L_sz _) gu_L) ?_
            refine vk (vbi) ?_
            refine vk (vpkd) ?_
            refine vk (vpkd) ?_
            refine asd ?_
            refine RL.gh (Gh.keep [2, 3, 4, 6, 7, 8, 10, 12, 35] rfl) ?_
            refine .nil ?_
            exact jr () trivial (by simp only [hb0, hb1, hb2, hb3]; rfl)
          have hb3 : (decide (x2.2.2.1 = 114)) = false := (decide_eq_false hc)
          refine vk (VOK.lit (vmvd) hb3) ?_
          refine gf ?_
          refine gf ?_
          refine gf ?_
          refine vk (vpkd) ?_
          refine vk (vpkd) ?_
          refine asd ?_
          refine RL.gh (Gh.keep [2, 3, 4, 6, 7, 8, 10, 12, 35] rfl) ?_
          refine .nil ?_
          exact jr () trivial (by simp only [hb0, hb1, hb2, hb3]; rfl)
        have hb2 : (!x4.2) = true := (ntt (bf hc))
        refine vk (VOK.lit (vmvd) hb2) ?_
        refine gf ?_
        refine gf ?_
        refine gfu ?_
        refine gf ?_
        refine gf ?_
        refine gf ?_
        refine gf ?_
        refine vk (vpkd) ?_
        refine asd ?_
        refine RL.gh (Gh.keep [2, 3, 4, 6, 7, 8, 10, 12, 35] rfl) ?_
        refine .nil ?_
        exact jr () trivial (by simp only [hb0, hb1, hb2]; rfl)
      have hb0 : (!x3.2) = true := (ntt (bf hc))
      refine vk (VOK.lit (vmvd) hb0) ?_
      refine gf ?_
      refine gf ?_
      refine gfu ?_
      refine gf ?_
      refine gf ?_
      refine gf ?_
      refine vk (vpkd) ?_
      refine vk (vmvd) ?_
      refine gf ?_
      refine gf ?_
      refine gfu ?_
      refine gf ?_
      refine gf ?_
      refine gf ?_
      refine gf ?_
      refine vk (vpkd) ?_
      refine asd ?_
      refine RL.gh (Gh.keep [2, 3, 4, 6, 7, 8, 10, 12, 35] rfl) ?_
      refine .nil ?_
      exact jr () trivial (by simp only [hb0]; rfl)
    rintro _ _
    by_cases hc : ((!x3.2) || (bif (!(decide (x2.2.2.1 = 0))) then ((!x4.2) || ((decide (x2.2.2.1 = 114)) && (decide (((List.length x4.1 : Nat) : Int) = 0)))) else ((decide (x2.2.2.1 = 114)) && (decide (((List.length x4.1 : Nat) : Int) = 0))))) = true
    · replace h := ite_t hc h
      refine cnt hc ?_
      refine .seq ?_
      refine .region ?_
      refine vk (vbd gP_R gI_R gZ_R) ?_
      refine stn ?_ gS_R (by decide)
      refine asd ?_
      refine rn ?_
      refine .gh (Gh.keep [2, 3, 4, 8, 12] rfl) ?_
      refine .ret ?_
      cases h
      exact ⟨_, _, ⟨.inr rfl, gA_R, gS_R, (by decide : (0 : Nat) < 3)⟩, rfl, rfl⟩
    replace h := ite_f hc h
    refine cnf (bf hc) ?_
    refine .seq ?_
    refine .region ?_
    refine vk (vmvd) ?_
    refine vk (vbi) ?_
    refine asd ?_
    refine rn ?_
    refine .gh (Gh.keep [2, 3, 4, 6, 7, 8, 10, 12, 56] rfl) ?_
    by_cases hc : x2.2.2.1 = 114
    · replace h := ite_t hc h
      refine cnt (decide_eq_true hc) ?_
      refine .region ?_
      refine vk (vmvd) ?_
      refine asd ?_
      refine RL.gh (Gh.keep [2, 3, 4, 8, 12] rfl) ?_
      refine .nil ?_
      exact jr (x3.1, x4.1) h
    replace h := ite_f hc h
    refine cnf (decide_eq_false hc) ?_
    refine .seq ?_
    refine .region ?_
    refine vk (vmvd) ?_
    refine vk (vbi) ?_
    refine asd ?_
    refine rn ?_
    refine .gh (Gh.keep [2, 3, 4, 7, 8, 10, 12, 60] rfl) ?_
    by_cases hc : x2.2.2.1 = 46
    · replace h := ite_t hc h
      refine cnt (decide_eq_true hc) ?_
      refine .seq ?_
      refine .seq ?_
      refine .region ?_
      refine vk (vmvd) ?_
      refine vk (vrng st) ?_
      refine rn ?_
      refine .gh (Gh.keep [2, 3, 4, 8, 10, 12, 64] rfl) ?_
      refine .block ?_
      refine .loop (.gh (Gh.keep [2, 3, 4, 8, 10, 12, 64] rfl) ?_)
      refine AL.ind (σ := Nat × (List Nat) × Nat) (m := fun p => p.1) (e := fun p => [(2, .nb [.b false, .sl (L []), .sl (L [])]), (3, .d (.i .i64 0)), (4, .d (.b x2.1)), (8, .d (.sl (L x3.1))), (10, .d (.sl (L x4.1))), (12, .d (.sl (L p.2.1))), (64, .it x2.2.2.2 p.2.2)]) (h := fun p => []) (I := fun p => rat_Parse_l1 x2 x3 x4 K0 p.1 p.2.1 p.2.2 = some r) ?_ (FUEL, x5, 0) h
      rintro ⟨k, s8, s9⟩ h ih
      dsimp only at h ih ⊢
      rcases k with _ | k
      · rw [rat_Parse_l1] at h; cases h
      rw [rat_Parse_l1] at h
      refine .seq ?_
      refine .region ?_
      by_cases hc : s9 < ByteArray.size x2.2.2.2
      · replace h := ite_t hc h
        refine nxt ?_ hc
        refine vk (vex) ?_
        refine rn ?_
        refine .gh (Gh.keep [2, 3, 4, 8, 10, 12, 64, 66] rfl) ?_
        refine .seq ?_
        refine cndt ?_
        refine .skip ?_
        show AW _ _ _ _ _ _
        refine .block ?_
        refine .region ?_
        refine vk (vmvd) ?_
        refine vk ((vbsl (L_flat [10]) ge_L).deep) ?_
        refine vk ((vbsl (LL_flat [s8, [10]]) ge_LL).deep) ?_
        obtain ⟨x10, hx10, h⟩ := bnd h
        refine vk (vcl0 (nProduct_ok hx10) Tryz.call47) ?_
        refine asd ?_
        refine .nil ?_
        refine AL.gh (Gh.keep [2, 3, 4, 8, 10, 12, 64] rfl) ?_
        exact ih (k, x10, (rnext x2.2.2.2 s9)) h (Nat.lt_succ_self _)
      replace h := ite_f hc h
      refine nxe ?_ hc
      refine vk (vex) ?_
      refine rn ?_
      refine .gh (Gh.keep [2, 3, 4, 8, 10, 12, 64, 66] rfl) ?_
      refine .seq ?_
      refine cndf ?_
      refine .exit ?_
      show AW _ _ _ _ _ _
      refine .region ?_
      refine vk (vmvd) ?_
      refine vk (vmvd) ?_
      refine vk ((vbsl (LL_flat [x3.1, s8]) ge_LL).deep) ?_
      obtain ⟨x11, hx11, h⟩ := bnd h
      refine vk (vcl0 (nProduct_ok hx11) Tryz.call47) ?_
      refine vk (vmvd) ?_
      refine vk ((vbsl (LL_flat [x11, x4.1]) ge_LL).deep) ?_
      obtain ⟨x12, hx12, h⟩ := bnd h
      refine vk (vcl0 (nSum_ok hx12) Tryz.call46) ?_
      refine asd ?_
      refine RL.gh (Gh.keep [2, 3, 4, 8, 12] rfl) ?_
      refine .nil ?_
      exact jr (x12, s8) h
    replace h := ite_f hc h
    refine cnf (decide_eq_false hc) ?_
    refine .gh (Gh.keep [2, 3, 4, 8, 12] rfl) ?_
    refine .skip ?_
    exact jr (x3.1, x5) h
  rintro ⟨z6, z7⟩ h
  try dsimp only at h ⊢
  subst hK0
  refine .seq ?_
  refine .region ?_
  refine vk (vmvd) ?_
  refine vk (vmvd) ?_
  refine vk (vmvd) ?_
  obtain ⟨x13, hx13, h⟩ := bnd h
  refine vk (VOK.tupd (vs := [.ag [.b x13.1.1, .sl (L x13.1.2.1), .sl (L x13.1.2.2)], .i .i64 x13.2]) (vcl0 (ratMake_ok hx13) Tryz.call75)) ?_
  refine vk (vex) ?_
  refine vk (vex) ?_
  refine stn ?_ gS_R (by decide)
  refine asd ?_
  refine rn ?_
  refine .gh (Gh.keep [2, 3] rfl) ?_
  refine .ret ?_
  cases h
  exact ⟨_, _, ⟨.inr rfl, gA_R, gS_R, (by decide : (0 : Nat) < 3)⟩, rfl, rfl⟩
end Go.FL
/-
  GP: glyphlaw02: live, same.
-/
namespace Go.FL
open Go Go.Proofs

def law02_live : Option (Bool) := ((rat_Parse (⟨#[49, 114, 51]⟩ : ByteArray)).bind fun x1 => ((rat_Parse (⟨#[194, 175, 50, 46, 53]⟩ : ByteArray)).bind fun x2 => ((ratMul ([x1.1, x2.1])).bind fun x3 => (Option.bind ((if x1.2 = 0 then (if x2.2 = 0 then (if x3.2 = 0 then ((rat_Print x3.1).bind fun x5 => (if x5 = (⟨#[194, 175, 53, 114, 54]⟩ : ByteArray) then ((ratRight x3.1).bind fun x6 => (some x6)) else (some false))) else (some false)) else (some false)) else (some false)) : Option (Bool)) fun (z4 : Bool) => (some (z4))))))
theorem law02_live_ok {r : Bool} (h : law02_live = some r) :
    Fn Tryz.prog 6 [] (.d (.b r)) := by
  unfold law02_live at h
  refine Fn.of (rs := [.tmp 0]) (nt := 41) Tryz.func6 rfl rfl rfl (by simp) rfl ?_
  refine .seq ?_
  refine .region ?_
  refine asd ?_
  refine rn ?_
  refine .gh (Gh.keep [0] rfl) ?_
  refine .seq ?_
  refine .region ?_
  obtain ⟨x1, hx1, h⟩ := bnd h
  refine vk (VOK.tupd (vs := [.ag [.b x1.1.1, .sl (L x1.1.2.1), .sl (L x1.1.2.2)], .i .i64 x1.2]) (vcl0 (rat_Parse_ok hx1) Tryz.call27)) ?_
  refine vk (vmvd) ?_
  refine vk (vex) ?_
  refine vk (vex) ?_
  refine vk (van (zero_of gI_R) gZ_R) ?_
  refine stn ?_ gS_R (by decide)
  refine asd ?_
  refine rn ?_
  refine .gh (Gh.keep [0, 1, 2] rfl) ?_
  refine .seq ?_
  refine .region ?_
  obtain ⟨x2, hx2, h⟩ := bnd h
  refine vk (VOK.tupd (vs := [.ag [.b x2.1.1, .sl (L x2.1.2.1), .sl (L x2.1.2.2)], .i .i64 x2.2]) (vcl0 (rat_Parse_ok hx2) Tryz.call27)) ?_
  refine vk (vmvd) ?_
  refine vk (vex) ?_
  refine vk (vex) ?_
  refine vk (van (zero_of gI_R) gZ_R) ?_
  refine stn ?_ gS_R (by decide)
  refine asd ?_
  refine rn ?_
  refine .gh (Gh.keep [0, 1, 2, 3, 4] rfl) ?_
  refine .seq ?_
  refine .region ?_
  refine vk (vldn gA_R gS_R) ?_
  refine vk (vldn gA_R gS_R) ?_
  refine vk ((vbsl (RVs_flat [x1.1, x2.1]) ge_RVs).deep) ?_
  obtain ⟨x3, hx3, h⟩ := bnd h
  refine vk (VOK.tupd (vs := [.ag [.b x3.1.1, .sl (L x3.1.2.1), .sl (L x3.1.2.2)], .i .i64 x3.2]) (vcl0 (ratMul_ok hx3) Tryz.call18)) ?_
  refine vk (vmvd) ?_
  refine vk (vex) ?_
  refine vk (vex) ?_
  refine vk (van (zero_of gI_R) gZ_R) ?_
  refine stn ?_ gS_R (by decide)
  refine asd ?_
  refine rn ?_
  refine .gh (Gh.keep [0, 2, 4, 5, 6] rfl) ?_
  refine .seq ?_
  obtain ⟨z4, hz, h⟩ := bnd h
  refine AW.mr (σ := Unit) (fun _ => True) (fun _ => [(0, .d (.b z4))]) (fun _ => []) ?_ ?_
  · skip
    refine .region ?_
    refine vk (vmvd) ?_
    refine vk (vbi) ?_
    by_cases hc : x1.2 = 0
    · replace hz := ite_t hc hz
      have hb0 : (decide (x1.2 = 0)) = true := (decide_eq_true hc)
      refine vk (VOK.lit (vmvd) hb0) ?_
      refine vk (vmvd) ?_
      refine vk (vbi) ?_
      refine vk (vpkd) ?_
      by_cases hc : x2.2 = 0
      · replace hz := ite_t hc hz
        have hb1 : (decide (x2.2 = 0)) = true := (decide_eq_true hc)
        refine vk (VOK.lit (vmvd) hb1) ?_
        refine vk (vmvd) ?_
        refine vk (vbi) ?_
        refine vk (vpkd) ?_
        by_cases hc : x3.2 = 0
        · replace hz := ite_t hc hz
          have hb2 : (decide (x3.2 = 0)) = true := (decide_eq_true hc)
          refine vk (VOK.lit (vmvd) hb2) ?_
          refine vk (vldn gA_R gS_R) ?_
          obtain ⟨x5, hx5, hz⟩ := bnd hz
          refine vk (vcl0 (rat_Print_ok hx5) Tryz.call28) ?_
          refine vk (vsq (.inl rfl)) ?_
          refine vk (vpkd) ?_
          by_cases hc : x5 = (⟨#[194, 175, 53, 114, 54]⟩ : ByteArray)
          · replace hz := ite_t hc hz
            have hb3 : (decide (x5 = (⟨#[194, 175, 53, 114, 54]⟩ : ByteArray))) = true := (decide_eq_true hc)
            refine vk (VOK.lit (vmvd) hb3) ?_
            refine vk (vldn gA_R gS_R) ?_
            obtain ⟨x6, hx6, hz⟩ := bnd hz
            refine vk (vcl0 (ratRight_ok hx6) Tryz.call29) ?_
            refine vk (vpkd) ?_
            refine asd ?_
            refine RL.gh (Gh.keep [0] rfl) ?_
            refine .nil ?_
            cases hz
            exact jr () trivial
          replace hz := ite_f hc hz
          have hb3 : (decide (x5 = (⟨#[194, 175, 53, 114, 54]⟩ : ByteArray))) = false := (decide_eq_false hc)
          refine vk (VOK.lit (vmvd) hb3) ?_
          refine gf ?_
          refine gf ?_
          refine vk (vpkd) ?_
          refine asd ?_
          refine RL.gh (Gh.keep [0] rfl) ?_
          refine .nil ?_
          cases hz
          exact jr () trivial
        replace hz := ite_f hc hz
        have hb2 : (decide (x3.2 = 0)) = false := (decide_eq_false hc)
        refine vk (VOK.lit (vmvd) hb2) ?_
        refine gf ?_
        refine gf ?_
        refine gf ?_
        refine vk (vpkd) ?_
        refine vk (vmvd) ?_
        refine gf ?_
        refine gf ?_
        refine vk (vpkd) ?_
        refine asd ?_
        refine RL.gh (Gh.keep [0] rfl) ?_
        refine .nil ?_
        cases hz
        exact jr () trivial
      replace hz := ite_f hc hz
      have hb1 : (decide (x2.2 = 0)) = false := (decide_eq_false hc)
      refine vk (VOK.lit (vmvd) hb1) ?_
      refine gf ?_
      refine gf ?_
      refine vk (vpkd) ?_
      refine vk (vmvd) ?_
      refine gf ?_
      refine gf ?_
      refine gf ?_
      refine vk (vpkd) ?_
      refine vk (vmvd) ?_
      refine gf ?_
      refine gf ?_
      refine vk (vpkd) ?_
      refine asd ?_
      refine RL.gh (Gh.keep [0] rfl) ?_
      refine .nil ?_
      cases hz
      exact jr () trivial
    replace hz := ite_f hc hz
    have hb0 : (decide (x1.2 = 0)) = false := (decide_eq_false hc)
    refine vk (VOK.lit (vmvd) hb0) ?_
    refine gf ?_
    refine gf ?_
    refine vk (vpkd) ?_
    refine vk (vmvd) ?_
    refine gf ?_
    refine gf ?_
    refine vk (vpkd) ?_
    refine vk (vmvd) ?_
    refine gf ?_
    refine gf ?_
    refine gf ?_
    refine vk (vpkd) ?_
    refine vk (vmvd) ?_
    refine gf ?_
    refine gf ?_
    refine vk (vpkd) ?_
    refine asd ?_
    refine RL.gh (Gh.keep [0] rfl) ?_
    refine .nil ?_
    cases hz
    exact jr () trivial
  rintro _ _
  refine .ret ?_
  cases h
  exact ⟨rfl, rfl⟩

def law02_same (a0 : RT) (a1 : Int) (a2 : RT) (a3 : Int) : Option (Bool) := (Option.bind ((if a1 = a3 then ((ref2Same a0 a2).bind fun x2 => (some x2)) else (some false)) : Option (Bool)) fun (z1 : Bool) => (some (z1)))
theorem law02_same_ok {a0 : RT} {a1 : Int} {a2 : RT} {a3 : Int} {r : Bool} (h : law02_same a0 a1 a2 a3 = some r) :
    Fn Tryz.prog 7 [.ag [.b a0.1, .sl (L a0.2.1), .sl (L a0.2.2)], .i .i64 a1, .ag [.b a2.1, .sl (L a2.2.1), .sl (L a2.2.2)], .i .i64 a3] (.d (.b r)) := by
  unfold law02_same at h
  refine Fn.of (rs := [.tmp 8]) (nt := 17) Tryz.func7 rfl rfl rfl (by simp) rfl ?_
  refine .seq ?_
  refine .region ?_
  refine vk (vbx) ?_
  refine vk (vbx) ?_
  refine asd ?_
  refine rn ?_
  refine .gh (Gh.keep [1, 3, 4, 6, 8] rfl) ?_
  refine .seq ?_
  obtain ⟨z1, hz, h⟩ := bnd h
  refine AW.mr (σ := Unit) (fun _ => True) (fun _ => [(8, .d (.b z1))]) (fun _ => []) ?_ ?_
  · skip
    refine .region ?_
    refine vk (vmvd) ?_
    refine vk (vmvd) ?_
    refine vk (vbi) ?_
    by_cases hc : a1 = a3
    · replace hz := ite_t hc hz
      have hb0 : (decide (a1 = a3)) = true := (decide_eq_true hc)
      refine vk (VOK.lit (vmvd) hb0) ?_
      refine vk (vlda gA_R gS_R) ?_
      refine vk (vlda gA_R gS_R) ?_
      obtain ⟨x2, hx2, hz⟩ := bnd hz
      refine vk (vcl0 (ref2Same_ok hx2) Tryz.call30) ?_
      refine vk (vpkd) ?_
      refine asd ?_
      refine RL.gh (Gh.keep [8] rfl) ?_
      refine .nil ?_
      cases hz
      exact jr () trivial
    replace hz := ite_f hc hz
    have hb0 : (decide (a1 = a3)) = false := (decide_eq_false hc)
    refine vk (VOK.lit (vmvd) hb0) ?_
    refine gf ?_
    refine gf ?_
    refine gf ?_
    refine vk (vpkd) ?_
    refine asd ?_
    refine RL.gh (Gh.keep [8] rfl) ?_
    refine .nil ?_
    cases hz
    exact jr () trivial
  rintro _ _
  refine .ret ?_
  cases h
  exact ⟨rfl, rfl⟩
end Go.FL
/-
  Plain laws, rat 6: what must be whatever is asked.
-/
namespace Go.FL
open Go Go.Proofs

theorem count_a : unicode_utf8_RuneCountInString ⟨#[49, 114, 51]⟩ = some 3 := by kernel_rfl
theorem parts_a : rat_parts ⟨#[49, 114, 51]⟩ = some (false, ⟨#[49]⟩, 114, ⟨#[51]⟩) := by kernel_rfl
theorem count_b : unicode_utf8_RuneCountInString ⟨#[194, 175, 50, 46, 53]⟩ = some 4 := by kernel_rfl
theorem parts_b : rat_parts ⟨#[194, 175, 50, 46, 53]⟩ = some (true, ⟨#[50]⟩, 46, ⟨#[53]⟩) := by kernel_rfl
theorem parse_a : nParse ⟨#[49]⟩ = some (digs 1, true) := by kernel_rfl
theorem parse_b : nParse ⟨#[51]⟩ = some (digs 3, true) := by kernel_rfl
theorem parse_c : nParse ⟨#[50]⟩ = some (digs 2, true) := by kernel_rfl
theorem parse_d : nParse ⟨#[53]⟩ = some (digs 5, true) := by kernel_rfl
theorem nProduct_eq {ls : List (List Nat)} (h : ls.all (okL 40000) = true) (hl : ls.length ≤ 10) : nProduct ls = some (digs (prodF ls 1)) := if_pos (by rw [h, Bool.true_and]; exact decide_eq_true hl)
theorem nSum_eq {ls : List (List Nat)} (h : ls.all (okL 100000) = true) (hl : ls.length ≤ 1000) : nSum ls = some (digs (ls.map val).sum) := if_pos (by rw [h, Bool.true_and]; exact decide_eq_true hl)
theorem ratMake_eq {b : Bool} {n d : Nat} (hn : (digs n).length ≤ 100000) (hd : (digs d).length ≤ 100000) (h : d ≠ 0) : ratMake b (digs n) (digs d) = some (resR (mkRat (sg b n) d)) := by
  have : ratMake b (digs n) (digs d) = some (resQ (makeE b (val (digs n)) (val (digs d)))) := if_pos (by rw [Bool.and_eq_true]; exact ⟨okL_digs hn, okL_digs hd⟩)
  rw [this, val_digs, val_digs, makeE, if_neg h, lowE_rat h, resQ_lowR]
theorem few_len {n : Nat} (h : n < 4294967296) : (digs n).length ≤ 1 := digs_len (k := 1) (by simpa using h)
def r13 : Rat := ⟨1, 3, by decide, by decide⟩
def r52 : Rat := ⟨-5, 2, by decide, by decide⟩
def r56 : Rat := ⟨-5, 6, by decide, by decide⟩
theorem fits_few {p : Rat} (h1 : p.num.natAbs < 4294967296) (h2 : p.den < 4294967296) : fits p := ⟨Nat.le_trans (few_len h1) (by decide), Nat.le_trans (few_len h2) (by decide)⟩
theorem live_a : rat_Parse ⟨#[49, 114, 51]⟩ = some (ofQ r13, 0) := by
  unfold rat_Parse
  refine bind_eq count_a ?_
  rw [if_neg (by decide)]
  refine bind_eq parts_a (bind_eq parse_a (bind_eq parse_b (bind_eq ratOne_eq ?_)))
  simp only [jn]
  rw [if_neg (by
    have : (List.length (digs 3)) ≠ 0 := by rw [Ne, List.length_eq_zero_iff, digs_nil_iff]; decide
    simp [this]), if_pos trivial]
  refine bind_eq (ratMake_eq (Nat.le_trans (few_len (by decide)) (by decide)) (Nat.le_trans (few_len (by decide)) (by decide)) (by decide)) ?_
  rw [show mkRat (sg false 1) 3 = r13 from (Rat.mk_eq_mkRat 1 3 (by decide) (by decide)).symm, resR_fits (fits_few (by decide) (by decide))]
theorem live_b : rat_Parse ⟨#[194, 175, 50, 46, 53]⟩ = some (ofQ r52, 0) := by
  unfold rat_Parse
  refine bind_eq count_b ?_
  rw [if_neg (by decide)]
  refine bind_eq parts_b (bind_eq parse_c (bind_eq parse_d (bind_eq ratOne_eq ?_)))
  simp only [jn]
  have h5 : (List.length (digs 5)) ≠ 0 := by rw [Ne, List.length_eq_zero_iff, digs_nil_iff]; decide
  rw [if_neg (by simp), if_neg (by decide), if_pos trivial]
  have hF : FUEL = 999999999999998 + 1 + 1 := rfl
  rw [hF, rat_Parse_l1, if_pos (by decide), nProduct_eq (by rfl) (by decide), Option.bind_some, rat_Parse_l1, if_neg (by
    show ¬ rnext ⟨#[53]⟩ 0 < ByteArray.size ⟨#[53]⟩
    decide)]
  have e1 : digs (prodF [[1], [10]] 1) = digs 10 := rfl
  have l1 : ∀ n, n < 4294967296 → okL 40000 (digs n) = true := fun n h => okL_digs (Nat.le_trans (few_len h) (by decide))
  have l2 : ∀ n, n < 4294967296 → okL 100000 (digs n) = true := fun n h => okL_digs (Nat.le_trans (few_len h) (by decide))
  rw [e1, nProduct_eq (by simp [l1]) (by decide), Option.bind_some]
  have e2 : prodF [digs 2, digs 10] 1 = 20 := by simp [prodF, val_digs]
  rw [e2, nSum_eq (by simp [l2]) (by decide), Option.bind_some]
  have e3 : ([digs 20, digs 5].map val).sum = 25 := by simp [val_digs]
  rw [e3, ratMake_eq (Nat.le_trans (few_len (by decide)) (by decide)) (Nat.le_trans (few_len (by decide)) (by decide)) (by decide), Option.bind_some]
  rw [show mkRat (sg true 25) 10 = r52 by
    rw [show r52 = mkRat (-5) 2 from Rat.mk_eq_mkRat _ _ _ _]
    exact mkRat_eq (by decide) (by decide) (by decide), resR_fits (fits_few (by decide) (by decide))]
theorem live_eq : law02_live = some true := by
  have f1 : fits r13 := fits_few (by decide) (by decide)
  have f2 : fits r52 := fits_few (by decide) (by decide)
  have f3 : fits r56 := fits_few (by decide) (by decide)
  unfold law02_live
  rw [live_a, Option.bind_some, live_b, Option.bind_some, mul2_q f1 f2]
  have e : r13 * r52 = r56 := by
    rw [show r13 = mkRat 1 3 from Rat.mk_eq_mkRat _ _ _ _, show r52 = mkRat (-5) 2 from Rat.mk_eq_mkRat _ _ _ _, Rat.mkRat_mul_mkRat, show r56 = mkRat (-5) 6 from Rat.mk_eq_mkRat _ _ _ _]; rfl
  rw [e, resR_fits f3, Option.bind_some, if_pos rfl, if_pos rfl, if_pos rfl]
  have hp : rat_Print (ofQ r56) = some ⟨#[194, 175, 53, 114, 54]⟩ := by
    unfold rat_Print
    rw [ratRight_eq (ofQ_okRB f3), ofQ_right f3, Option.bind_some, if_pos rfl]
    have p1 : ∀ n, n < 4294967296 → nPrint (digs n) = some (bstr (decT n)) := fun n h => by
      have : nPrint (digs n) = some (bstr (decT (val (digs n)))) := if_pos (okL_digs (Nat.le_trans (few_len h) (by decide)))
      rw [this, val_digs]
    rw [show (ofQ r56).2.1 = digs 5 from rfl, show (ofQ r56).2.2 = digs 6 from rfl, p1 5 (by decide), p1 6 (by decide), Option.bind_some, if_pos (show (ofQ r56).1 = true from rfl)]
    have d5 : bstr (decT 5) = ⟨#[53]⟩ := by simp [decT, decR]; rfl
    have d6 : bstr (decT 6) = ⟨#[54]⟩ := by simp [decT, decR]; rfl
    rw [d5, d6, show sap? ⟨#[194, 175]⟩ ⟨#[53]⟩ = some ⟨#[194, 175, 53]⟩ by kernel_rfl, Option.bind_some, ratOne_eq, Option.bind_some, equalL_eq (okL_digs (Nat.le_trans (few_len (by decide)) (by decide))) (by rfl), Option.bind_some]
    rw [decide_eq_false (fun h => by have := digs_one_iff.1 h; omega), if_neg (by decide), Option.bind_some, show sap? ⟨#[114]⟩ ⟨#[54]⟩ = some ⟨#[114, 54]⟩ by kernel_rfl, Option.bind_some, show sap? ⟨#[194, 175, 53]⟩ ⟨#[114, 54]⟩ = some ⟨#[194, 175, 53, 114, 54]⟩ by kernel_rfl]
    rfl
  rw [hp, Option.bind_some, if_pos rfl, ratRight_eq (ofQ_okRB f3), ofQ_right f3]; rfl
theorem same_eq {a c : RT} {b d : Int} (h1 : a.2.1.length ≤ 35184372087808) (h2 : a.2.2.length ≤ 35184372087808) : law02_same a b c d = some (decide (b = d ∧ a = c)) := by
  unfold law02_same
  have : ref2Same a c = some (decide (a = c)) := if_pos (by rw [decide_eq_true h1, decide_eq_true h2]; rfl)
  by_cases h : b = d
  · rw [if_pos h, this]; simp [h]
  · rw [if_neg h]; simp [h]
end Go.FL
/-
  GP: glyphref02: sums, products, rounding.
-/
namespace Go.FL
open Go Go.Proofs

def ref02_OfInt (a0 : Int) : Option (RT) := (if a0 < 0 then ((r1Of (IntKind.wrap .u64 (0 - (IntKind.wrap .u64 a0)))).bind fun x1 => (ref2One.bind fun x2 => (some (((decide (a0 < 0)), x1, x2))))) else ((r1Of (IntKind.wrap .u64 a0)).bind fun x3 => (ref2One.bind fun x4 => (some (((decide (a0 < 0)), x3, x4))))))
theorem ref02_OfInt_ok {a0 : Int} {r : RT} (h : ref02_OfInt a0 = some r) :
    Fn Tryz.prog 38 [.i .i64 a0] (.d (.ag [.b r.1, .sl (L r.2.1), .sl (L r.2.2)])) := by
  unfold ref02_OfInt at h
  refine Fn.ofC (rs := [.cell 2 24]) (nt := 16) Tryz.func38 rfl rfl rfl (by simp) rfl ?_
  refine .seq ?_
  refine .region ?_
  refine vk (van (zero_of gI_R) gZ_R) ?_
  refine rn ?_
  refine .gh (Gh.keep [0, 2] rfl) ?_
  refine .seq ?_
  refine .region ?_
  refine vk (vmvd) ?_
  refine vk (vcv gk_int gk_uint64) ?_
  refine asd ?_
  refine rn ?_
  refine .gh (Gh.keep [0, 2, 3] rfl) ?_
  refine .seq ?_
  refine .seq ?_
  refine .region ?_
  refine vk (vmvd) ?_
  refine vk (vbi) ?_
  refine rn ?_
  refine .gh (Gh.keep [0, 2, 3, 7] rfl) ?_
  by_cases hc : a0 < 0
  · replace h := ite_t hc h
    refine cnt (decide_eq_true hc) ?_
    refine .region ?_
    refine vk (vmvd) ?_
    refine vk (vng) ?_
    refine asd ?_
    refine rn ?_
    refine .gh (Gh.keep [0, 2, 3] rfl) ?_
    refine .seq ?_
    refine .region ?_
    refine vk (vmvd) ?_
    refine vk (vbi) ?_
    refine vk (vmvd) ?_
    obtain ⟨x1, hx1, h⟩ := bnd h
    refine vk ((vcl0 (r1Of_ok hx1) Tryz.call50).deep) ?_
    obtain ⟨x2, hx2, h⟩ := bnd h
    refine vk ((vcl0 (ref2One_ok hx2) Tryz.call41).deep) ?_
    refine vk (vbd gP_R gI_R gZ_R) ?_
    refine stn ?_ gS_R (by decide)
    refine rn ?_
    refine .gh (Gh.keep [2] rfl) ?_
    refine .ret ?_
    cases h
    exact ⟨_, ⟨.inr rfl, gA_R, gS_R, (by decide : (0 : Nat) < 3)⟩, rfl⟩
  replace h := ite_f hc h
  refine cnf (decide_eq_false hc) ?_
  refine .skip ?_
  show AW _ _ _ _ _ _
  refine .seq ?_
  refine .region ?_
  refine vk (vmvd) ?_
  refine vk (vbi) ?_
  refine vk (vmvd) ?_
  obtain ⟨x3, hx3, h⟩ := bnd h
  refine vk ((vcl0 (r1Of_ok hx3) Tryz.call50).deep) ?_
  obtain ⟨x4, hx4, h⟩ := bnd h
  refine vk ((vcl0 (ref2One_ok hx4) Tryz.call41).deep) ?_
  refine vk (vbd gP_R gI_R gZ_R) ?_
  refine stn ?_ gS_R (by decide)
  refine rn ?_
  refine .gh (Gh.keep [2] rfl) ?_
  refine .ret ?_
  cases h
  exact ⟨_, ⟨.inr rfl, gA_R, gS_R, (by decide : (0 : Nat) < 3)⟩, rfl⟩

def ref02_copied (a0 : RT) : Option (RT) := ((r1Trim a0.2.1).bind fun x1 => ((r1Trim a0.2.2).bind fun x2 => (some ((a0.1, x1, x2)))))
theorem ref02_copied_ok {a0 : RT} {r : RT} (h : ref02_copied a0 = some r) :
    Fn Tryz.prog 21 [.ag [.b a0.1, .sl (L a0.2.1), .sl (L a0.2.2)]] (.d (.ag [.b r.1, .sl (L r.2.1), .sl (L r.2.2)])) := by
  unfold ref02_copied at h
  refine Fn.ofC (rs := [.cell 2 24]) (nt := 12) Tryz.func21 rfl rfl rfl (by simp) rfl ?_
  refine .seq ?_
  refine .region ?_
  refine vk (vbx) ?_
  refine vk (van (zero_of gI_R) gZ_R) ?_
  refine rn ?_
  refine .gh (Gh.keep [1, 2] rfl) ?_
  refine .seq ?_
  refine .drawn 9 mixed (by kernel_rfl) ?_
  refine dv (vfa gF_R_0) ?_
  refine dv (vldp ga_bool) ?_
  refine dv (vfa gF_R_1) ?_
  refine dv (vldp ga_L) ?_
  obtain ⟨x1, hx1, h⟩ := bnd h
  refine dv ((vcl0 (r1Trim_ok hx1) Tryz.call70).deep) ?_
  refine dv (vfa gF_R_2) ?_
  refine dv (vldp ga_L) ?_
  obtain ⟨x2, hx2, h⟩ := bnd h
  refine dv ((vcl0 (r1Trim_ok hx2) Tryz.call70).deep) ?_
  refine dv (vbd gP_R gI_R gZ_R) ?_
  refine dz ?_
  refine stn ?_ gS_R (by decide)
  refine rn ?_
  refine .gh (Gh.keep [2] rfl) ?_
  refine .ret ?_
  cases h
  exact ⟨_, ⟨.inr rfl, gA_R, gS_R, (by decide : (0 : Nat) < 3)⟩, rfl⟩

def ref02_signed (a0 : (List Nat)) (a1 : Bool) (a2 : (List Nat)) (a3 : Bool) : Option ((List Nat) × Bool) := (if (a1 == a3) = true then ((r1Add a0 a2).bind fun x1 => (some (x1, a1))) else ((r1Compare a0 a2).bind fun x2 => (if 0 ≤ x2 then ((r1Minus a0 a2).bind fun x3 => (some (x3.1, a1))) else ((r1Minus a2 a0).bind fun x4 => (some (x4.1, a3))))))
theorem ref02_signed_ok {a0 : (List Nat)} {a1 : Bool} {a2 : (List Nat)} {a3 : Bool} {r : (List Nat) × Bool} (h : ref02_signed a0 a1 a2 a3 = some r) :
    Fn Tryz.prog 71 [.sl (L a0), .b a1, .sl (L a2), .b a3] (.tup [.d (.sl (L r.1)), .d (.b r.2)]) := by
  unfold ref02_signed at h
  refine Fn.of (rs := [.tmp 8, .tmp 9]) (nt := 41) Tryz.func71 rfl rfl rfl (by simp) rfl ?_
  refine .seq ?_
  refine .region ?_
  refine asn ?_
  refine asd ?_
  refine rn ?_
  refine .gh (Gh.keep [0, 1, 2, 3, 8, 9] rfl) ?_
  refine .seq ?_
  refine .seq ?_
  refine .region ?_
  refine vk (vmvd) ?_
  refine vk (vmvd) ?_
  refine vk (vbbn (.inl rfl) bo) ?_
  refine rn ?_
  refine .gh (Gh.keep [0, 1, 2, 3, 8, 9, 16] rfl) ?_
  by_cases hc : (a1 == a3) = true
  · replace h := ite_t hc h
    refine cnt hc ?_
    refine .seq ?_
    refine .region ?_
    refine vk (vmvd) ?_
    refine vk (vmvd) ?_
    obtain ⟨x1, hx1, h⟩ := bnd h
    refine vk ((vcl0 (r1Add_ok hx1) Tryz.call56).deep) ?_
    refine vk (vmvd) ?_
    refine asd ?_
    refine asd ?_
    refine rn ?_
    refine .gh (Gh.keep [0, 1, 2, 3, 8, 9] rfl) ?_
    refine .ret ?_
    cases h
    exact ⟨by decide, rfl, rfl, rfl⟩
  replace h := ite_f hc h
  refine cnf (bf hc) ?_
  refine .skip ?_
  show AW _ _ _ _ _ _
  refine .seq ?_
  refine .seq ?_
  refine .region ?_
  refine vk (vmvd) ?_
  refine vk (vmvd) ?_
  obtain ⟨x2, hx2, h⟩ := bnd h
  refine vk (vcl0 (r1Compare_ok hx2) Tryz.call55) ?_
  refine vk (vbi) ?_
  refine rn ?_
  refine .gh (Gh.keep [0, 1, 2, 3, 8, 9, 24] rfl) ?_
  by_cases hc : 0 ≤ x2
  · replace h := ite_t hc h
    refine cnt (decide_eq_true hc) ?_
    refine .seq ?_
    refine .region ?_
    refine vk (vmvd) ?_
    refine vk (vmvd) ?_
    obtain ⟨x3, hx3, h⟩ := bnd h
    refine vk (VOK.tupd (vs := [.sl (L x3.1), .b x3.2]) (vcl0 (r1Minus_ok hx3) Tryz.call54)) ?_
    refine vk (vmvd) ?_
    refine vk (vex) ?_
    refine vk (vex) ?_
    refine asd ?_
    refine asd ?_
    refine rn ?_
    refine .gh (Gh.keep [0, 1, 2, 3, 8, 9, 10] rfl) ?_
    refine .seq ?_
    refine .region ?_
    refine vk (vmvd) ?_
    refine vk (vmvd) ?_
    refine asd ?_
    refine asd ?_
    refine rn ?_
    refine .gh (Gh.keep [0, 2, 3, 8, 9] rfl) ?_
    refine .ret ?_
    cases h
    exact ⟨by decide, rfl, rfl, rfl⟩
  replace h := ite_f hc h
  refine cnf (decide_eq_false hc) ?_
  refine .skip ?_
  show AW _ _ _ _ _ _
  refine .seq ?_
  refine .region ?_
  refine vk (vmvd) ?_
  refine vk (vmvd) ?_
  obtain ⟨x4, hx4, h⟩ := bnd h
  refine vk (VOK.tupd (vs := [.sl (L x4.1), .b x4.2]) (vcl0 (r1Minus_ok hx4) Tryz.call54)) ?_
  refine vk (vmvd) ?_
  refine vk (vex) ?_
  refine vk (vex) ?_
  refine asd ?_
  refine asd ?_
  refine rn ?_
  refine .gh (Gh.keep [3, 8, 9, 12] rfl) ?_
  refine .seq ?_
  refine .region ?_
  refine vk (vmvd) ?_
  refine vk (vmvd) ?_
  refine asd ?_
  refine asd ?_
  refine rn ?_
  refine .gh (Gh.keep [8, 9] rfl) ?_
  refine .ret ?_
  cases h
  exact ⟨by decide, rfl, rfl, rfl⟩

def ref02_Two (a0 : RT) (a1 : RT) : Option (RT × Int) := ((r1Mul a0.2.1 a1.2.2).bind fun x1 => ((r1Mul a1.2.1 a0.2.2).bind fun x2 => ((ref02_signed x1 a0.1 x2 a1.1).bind fun x3 => ((r1Mul a0.2.2 a1.2.2).bind fun x4 => ((ref2Make x3.2 x3.1 x4).bind fun x5 => (some (x5.1, x5.2)))))))
theorem ref02_Two_ok {a0 : RT} {a1 : RT} {r : RT × Int} (h : ref02_Two a0 a1 = some r) :
    Fn Tryz.prog 25 [.ag [.b a0.1, .sl (L a0.2.1), .sl (L a0.2.2)], .ag [.b a1.1, .sl (L a1.2.1), .sl (L a1.2.2)]] (.tup [.d (.ag [.b r.1.1, .sl (L r.1.2.1), .sl (L r.1.2.2)]), .d (.i .i64 r.2)]) := by
  unfold ref02_Two at h
  refine Fn.ofC (rs := [.cell 4 24, .tmp 5]) (nt := 36) Tryz.func25 rfl rfl rfl (by simp) rfl ?_
  refine .seq ?_
  refine .region ?_
  refine vk (vbx) ?_
  refine vk (vbx) ?_
  refine vk (van (zero_of gI_R) gZ_R) ?_
  refine asd ?_
  refine rn ?_
  refine .gh (Gh.keep [2, 3, 4, 5] rfl) ?_
  refine .seq ?_
  obtain ⟨x1, hx1, h⟩ := bnd h
  obtain ⟨x2, hx2, h⟩ := bnd h
  obtain ⟨x3, hx3, h⟩ := bnd h
  refine .drawnF 18 [17] [(6, .d (.sl (L x3.1)))] [] mixed (by kernel_rfl) rfl ?_
  refine dv (vfa gF_R_1) ?_
  refine dv (vldp ga_L) ?_
  refine dv (vfa gF_R_2) ?_
  refine dv (vldp ga_L) ?_
  refine dv ((vcl0 (r1Mul_ok hx1) Tryz.call49).deep) ?_
  refine dv (vfa gF_R_0) ?_
  refine dv (vldp ga_bool) ?_
  refine dv (vfa gF_R_1) ?_
  refine dv (vldp ga_L) ?_
  refine dv (vfa gF_R_2) ?_
  refine dv (vldp ga_L) ?_
  refine dv ((vcl0 (r1Mul_ok hx2) Tryz.call49).deep) ?_
  refine dv (vfa gF_R_0) ?_
  refine dv (vldp ga_bool) ?_
  refine dv (VOK.tupd (vs := [.sl (L x3.1), .b x3.2]) (vcl0 (ref02_signed_ok hx3) Tryz.call71)) ?_
  refine dv (vmvd) ?_
  refine dv (vex) ?_
  refine dv (vex) ?_
  refine dz ?_
  refine ⟨?_, ?_, ?_⟩
  · intro k hk
    simp only [List.mem_cons, List.not_mem_nil, or_false] at hk
    subst hk
    exact ⟨_, _, _, rfl, rfl, rfl, rfl, rfl, rfl, vex⟩
  · intro om e hom hge
    cases hom
    exact ok_asd rfl ((hge 24 (fun k hk v hv => by
        simp only [List.mem_cons, List.not_mem_nil, or_false] at hk
        subst hk; exact (by decide : ¬ (some 25 = some 24)) (congrArg (Option.map Prod.fst) hv))).trans rfl) rfl ((congrArg isOwn (hge 6 (fun k hk v hv => by
        simp only [List.mem_cons, List.not_mem_nil, or_false] at hk
        subst hk; exact (by decide : ¬ (some 25 = some 6)) (congrArg (Option.map Prod.fst) hv)))).trans rfl) rfl ⟨rfl, rfl⟩
  refine asd ?_
  refine rn ?_
  refine .gh (Gh.keep [2, 3, 4, 5, 6, 7] rfl) ?_
  refine .seq ?_
  refine .region ?_
  refine vk (vmvd) ?_
  refine vk (vmvd) ?_
  refine vk (vfa gF_R_2) ?_
  refine vk (vldp ga_L) ?_
  refine vk (vfa gF_R_2) ?_
  refine vk (vldp ga_L) ?_
  obtain ⟨x4, hx4, h⟩ := bnd h
  refine vk ((vcl0 (r1Mul_ok hx4) Tryz.call49).deep) ?_
  obtain ⟨x5, hx5, h⟩ := bnd h
  refine vk (VOK.tupd (vs := [.ag [.b x5.1.1, .sl (L x5.1.2.1), .sl (L x5.1.2.2)], .i .i64 x5.2]) (vcl0 (ref2Make_ok hx5) Tryz.call51)) ?_
  refine vk (vex) ?_
  refine vk (vex) ?_
  refine stn ?_ gS_R (by decide)
  refine asd ?_
  refine rn ?_
  refine .gh (Gh.keep [4, 5] rfl) ?_
  refine .ret ?_
  cases h
  exact ⟨_, _, ⟨.inr rfl, gA_R, gS_R, (by decide : (0 : Nat) < 3)⟩, rfl, rfl⟩

def ref02_Times (a0 : RT) (a1 : RT) : Option (RT × Int) := ((r1Mul a0.2.1 a1.2.1).bind fun x1 => ((r1Mul a0.2.2 a1.2.2).bind fun x2 => ((ref2Make (a0.1 != a1.1) x1 x2).bind fun x3 => (some (x3.1, x3.2)))))
theorem ref02_Times_ok {a0 : RT} {a1 : RT} {r : RT × Int} (h : ref02_Times a0 a1 = some r) :
    Fn Tryz.prog 24 [.ag [.b a0.1, .sl (L a0.2.1), .sl (L a0.2.2)], .ag [.b a1.1, .sl (L a1.2.1), .sl (L a1.2.2)]] (.tup [.d (.ag [.b r.1.1, .sl (L r.1.2.1), .sl (L r.1.2.2)]), .d (.i .i64 r.2)]) := by
  unfold ref02_Times at h
  refine Fn.ofC (rs := [.cell 4 24, .tmp 5]) (nt := 24) Tryz.func24 rfl rfl rfl (by simp) rfl ?_
  refine .seq ?_
  refine .region ?_
  refine vk (vbx) ?_
  refine vk (vbx) ?_
  refine vk (van (zero_of gI_R) gZ_R) ?_
  refine asd ?_
  refine rn ?_
  refine .gh (Gh.keep [2, 3, 4, 5] rfl) ?_
  refine .seq ?_
  refine .drawn 18 mixed (by kernel_rfl) ?_
  refine dv (vfa gF_R_0) ?_
  refine dv (vldp ga_bool) ?_
  refine dv (vfa gF_R_0) ?_
  refine dv (vldp ga_bool) ?_
  refine dv (vbbn (.inr rfl) bo) ?_
  refine dv (vfa gF_R_1) ?_
  refine dv (vldp ga_L) ?_
  refine dv (vfa gF_R_1) ?_
  refine dv (vldp ga_L) ?_
  obtain ⟨x1, hx1, h⟩ := bnd h
  refine dv ((vcl0 (r1Mul_ok hx1) Tryz.call49).deep) ?_
  refine dv (vfa gF_R_2) ?_
  refine dv (vldp ga_L) ?_
  refine dv (vfa gF_R_2) ?_
  refine dv (vldp ga_L) ?_
  obtain ⟨x2, hx2, h⟩ := bnd h
  refine dv ((vcl0 (r1Mul_ok hx2) Tryz.call49).deep) ?_
  obtain ⟨x3, hx3, h⟩ := bnd h
  refine dv (VOK.tupd (vs := [.ag [.b x3.1.1, .sl (L x3.1.2.1), .sl (L x3.1.2.2)], .i .i64 x3.2]) (vcl0 (ref2Make_ok hx3) Tryz.call51)) ?_
  refine dv (vex) ?_
  refine dv (vex) ?_
  refine dz ?_
  refine stn ?_ gS_R (by decide)
  refine asd ?_
  refine rn ?_
  refine .gh (Gh.keep [4, 5] rfl) ?_
  refine .ret ?_
  cases h
  exact ⟨_, _, ⟨.inr rfl, gA_R, gS_R, (by decide : (0 : Nat) < 3)⟩, rfl, rfl⟩

def ref02_neg (a0 : RT) : Option (RT) := ((ref02_copied a0).bind fun x1 => (some ((((!x1.1) && (decide (0 < ((List.length x1.2.1 : Nat) : Int)))), x1.2.1, x1.2.2))))
theorem ref02_neg_ok {a0 : RT} {r : RT} (h : ref02_neg a0 = some r) :
    Fn Tryz.prog 26 [.ag [.b a0.1, .sl (L a0.2.1), .sl (L a0.2.2)]] (.d (.ag [.b r.1, .sl (L r.2.1), .sl (L r.2.2)])) := by
  unfold ref02_neg at h
  refine Fn.ofC (rs := [.cell 2 24]) (nt := 17) Tryz.func26 rfl rfl rfl (by simp) rfl ?_
  refine .seq ?_
  refine .region ?_
  refine vk (vbx) ?_
  refine vk (van (zero_of gI_R) gZ_R) ?_
  refine rn ?_
  refine .gh (Gh.keep [1, 2] rfl) ?_
  refine .seq ?_
  refine .region ?_
  refine vk (vlda gA_R gS_R) ?_
  obtain ⟨x1, hx1, h⟩ := bnd h
  refine vk (vcl0 (ref02_copied_ok hx1) Tryz.call21) ?_
  refine vk (van (zero_of gI_R) gZ_R) ?_
  refine stn ?_ gS_R (by decide)
  refine RL.gh2 (Gh.nbb (t := 3) rfl) ?_
  refine rn ?_
  refine .gh (Gh.keep [2, 3] rfl) ?_
  refine .seq ?_
  refine AW.mr (σ := Unit) (fun _ => True) (fun _ => [(2, .nb [.b false, .sl (L []), .sl (L [])]), (3, .bp 0 0)]) (fun _ => [HO.box [.d (.b ((!x1.1) && (decide (0 < ((List.length x1.2.1 : Nat) : Int))))), .d (.sl (L x1.2.1)), .d (.sl (L x1.2.2))]]) ?_ ?_
  · skip
    refine .region ?_
    refine vk (vfab gF_R_0) ?_
    refine vk (vldb (cs := [.d (.b x1.1), .d (.sl (L x1.2.1)), .d (.sl (L x1.2.2))]) (c := .b x1.1) rfl rfl ga_bool) ?_
    refine vk (vnt) ?_
    by_cases hc : x1.1 = true
    · have hb0 : (!x1.1) = false := (ntf hc)
      refine vk (VOK.lit (vmvd) hb0) ?_
      refine gf ?_
      refine gf ?_
      refine gf ?_
      refine gf ?_
      refine vk (vpkd) ?_
      refine vk (vfab gF_R_0) ?_
      refine stb (cs := [.d (.b x1.1), .d (.sl (L x1.2.1)), .d (.sl (L x1.2.2))]) (c := .d (.b x1.1)) rfl rfl ?_ gz_bool
      refine RL.gh (Gh.keep [2, 3] rfl) ?_
      refine .nil ?_
      exact jr () trivial (by simp only [hb0]; rfl) (by simp only [hb0]; rfl)
    have hb0 : (!x1.1) = true := (ntt (bf hc))
    refine vk (VOK.lit (vmvd) hb0) ?_
    refine vk (vfab gF_R_1) ?_
    refine vk (vldb (cs := [.d (.b x1.1), .d (.sl (L x1.2.1)), .d (.sl (L x1.2.2))]) (c := .sl (L x1.2.1)) rfl rfl ga_L) ?_
    refine vk (vlnE (L_length _) (L_sz _) gu_L) ?_
    refine vk (vbi) ?_
    refine vk (vpkd) ?_
    refine vk (vfab gF_R_0) ?_
    refine stb (cs := [.d (.b x1.1), .d (.sl (L x1.2.1)), .d (.sl (L x1.2.2))]) (c := .d (.b x1.1)) rfl rfl ?_ gz_bool
    refine RL.gh (Gh.keep [2, 3] rfl) ?_
    refine .nil ?_
    exact jr () trivial (by simp only [hb0]; rfl) (by simp only [hb0]; rfl)
  rintro _ _
  refine .seq ?_
  refine .region ?_
  refine vk (vldba (cs := [.d (.b ((!x1.1) && (decide (0 < ((List.length x1.2.1 : Nat) : Int))))), .d (.sl (L x1.2.1)), .d (.sl (L x1.2.2))]) (ds := [.b ((!x1.1) && (decide (0 < ((List.length x1.2.1 : Nat) : Int)))), .sl (L x1.2.1), .sl (L x1.2.2)]) rfl gA_R gS_R) ?_
  refine stn ?_ gS_R (by decide)
  refine rn ?_
  refine .gh (Gh.keep [2] rfl) ?_
  refine .ret ?_
  cases h
  exact ⟨_, ⟨.inr rfl, gA_R, gS_R, (by decide : (0 : Nat) < 3)⟩, rfl⟩

def ref02_Div (a0 : RT) (a1 : RT) : Option (RT × Int) := ((ref2Right a0).bind fun x1 => (Option.bind ((if x1 = true then ((ref2Right a1).bind fun x3 => (some (!x3))) else (some true)) : Option (Bool)) fun (z1 : Bool) => (if z1 = true then (some ((false, [], []), 22)) else (if ((decide (((List.length a1.2.1 : Nat) : Int) = 0)) && (decide (((List.length a0.2.1 : Nat) : Int) = 0))) = true then ((ref02_OfInt 1).bind fun x4 => (some (x4, 0))) else (if ((List.length a1.2.1 : Nat) : Int) = 0 then (some ((false, [], []), 3)) else ((r1Mul a0.2.1 a1.2.2).bind fun x5 => ((r1Mul a0.2.2 a1.2.1).bind fun x6 => ((ref2Make (a0.1 != a1.1) x5 x6).bind fun x7 => (some (x7.1, x7.2))))))))))
theorem ref02_Div_ok {a0 : RT} {a1 : RT} {r : RT × Int} (h : ref02_Div a0 a1 = some r) :
    Fn Tryz.prog 22 [.ag [.b a0.1, .sl (L a0.2.1), .sl (L a0.2.2)], .ag [.b a1.1, .sl (L a1.2.1), .sl (L a1.2.2)]] (.tup [.d (.ag [.b r.1.1, .sl (L r.1.2.1), .sl (L r.1.2.2)]), .d (.i .i64 r.2)]) := by
  unfold ref02_Div at h
  refine Fn.ofC (rs := [.cell 4 24, .tmp 5]) (nt := 52) Tryz.func22 rfl rfl rfl (by simp) rfl ?_
  refine .seq ?_
  refine .region ?_
  refine vk (vbx) ?_
  refine vk (vbx) ?_
  refine vk (van (zero_of gI_R) gZ_R) ?_
  refine asd ?_
  refine rn ?_
  refine .gh (Gh.keep [2, 3, 4, 5] rfl) ?_
  refine .seq ?_
  refine .block ?_
  refine .seq ?_
  obtain ⟨x1, hx1, h⟩ := bnd h
  obtain ⟨z1, hz, h⟩ := bnd h
  refine AW.mr (σ := Unit) (fun _ => True) (fun _ => [(2, .d (.ptr [.b a0.1, .sl (L a0.2.1), .sl (L a0.2.2)])), (3, .d (.ptr [.b a1.1, .sl (L a1.2.1), .sl (L a1.2.2)])), (4, .nb [.b false, .sl (L []), .sl (L [])]), (5, .d (.i .i64 0)), (6, .d (.b z1))]) (fun _ => []) ?_ ?_
  · skip
    refine .region ?_
    refine vk (vlda gA_R gS_R) ?_
    refine vk (vcl0 (ref2Right_ok hx1) Tryz.call20) ?_
    refine vk (vnt) ?_
    by_cases hc : x1 = true
    · replace hz := ite_t hc hz
      have hb0 : (!x1) = false := (ntf hc)
      refine vk (VOK.lit (vmvd) hb0) ?_
      refine vk (vlda gA_R gS_R) ?_
      obtain ⟨x3, hx3, hz⟩ := bnd hz
      refine vk (vcl0 (ref2Right_ok hx3) Tryz.call20) ?_
      refine vk (vnt) ?_
      refine vk (vpkd) ?_
      refine asd ?_
      refine RL.gh (Gh.keep [2, 3, 4, 5, 6] rfl) ?_
      refine .nil ?_
      cases hz
      exact jr () trivial
    replace hz := ite_f hc hz
    have hb0 : (!x1) = true := (ntt (bf hc))
    refine vk (VOK.lit (vmvd) hb0) ?_
    refine gf ?_
    refine gf ?_
    refine gf ?_
    refine vk (vpkd) ?_
    refine asd ?_
    refine RL.gh (Gh.keep [2, 3, 4, 5, 6] rfl) ?_
    refine .nil ?_
    cases hz
    exact jr () trivial
  rintro _ _
  by_cases hc : z1 = true
  · replace h := ite_t hc h
    refine cnt hc ?_
    refine .seq ?_
    refine .region ?_
    refine vk (vbd gP_R gI_R gZ_R) ?_
    refine stn ?_ gS_R (by decide)
    refine asd ?_
    refine rn ?_
    refine .gh (Gh.keep [2, 3, 4, 5] rfl) ?_
    refine .ret ?_
    cases h
    exact ⟨_, _, ⟨.inr rfl, gA_R, gS_R, (by decide : (0 : Nat) < 3)⟩, rfl, rfl⟩
  replace h := ite_f hc h
  refine cnf (bf hc) ?_
  refine .seq ?_
  refine AW.mr (σ := Unit) (fun _ => True) (fun _ => [(2, .d (.ptr [.b a0.1, .sl (L a0.2.1), .sl (L a0.2.2)])), (3, .d (.ptr [.b a1.1, .sl (L a1.2.1), .sl (L a1.2.2)])), (4, .nb [.b false, .sl (L []), .sl (L [])]), (5, .d (.i .i64 0)), (16, .d (.b ((decide (((List.length a1.2.1 : Nat) : Int) = 0)) && (decide (((List.length a0.2.1 : Nat) : Int) = 0)))))]) (fun _ => []) ?_ ?_
  · skip
    refine .region ?_
    refine vk (vfa gF_R_1) ?_
    refine vk (vldp ga_L) ?_
    refine vk (vlnE (L_length _) (L_sz _) gu_L) ?_
    refine vk (vbi) ?_
    by_cases hc : ((List.length a1.2.1 : Nat) : Int) = 0
    · have hb0 : (decide (((List.length a1.2.1 : Nat) : Int) = 0)) = true := (decide_eq_true hc)
      refine vk (VOK.lit (vmvd) hb0) ?_
      refine vk (vfa gF_R_1) ?_
      refine vk (vldp ga_L) ?_
      refine vk (vlnE (L_length _) (L_sz _) gu_L) ?_
      refine vk (vbi) ?_
      refine vk (vpkd) ?_
      refine asd ?_
      refine RL.gh (Gh.keep [2, 3, 4, 5, 16] rfl) ?_
      refine .nil ?_
      exact jr () trivial (by simp only [hb0]; rfl)
    have hb0 : (decide (((List.length a1.2.1 : Nat) : Int) = 0)) = false := (decide_eq_false hc)
    refine vk (VOK.lit (vmvd) hb0) ?_
    refine gf ?_
    refine gf ?_
    refine gf ?_
    refine gf ?_
    refine vk (vpkd) ?_
    refine asd ?_
    refine RL.gh (Gh.keep [2, 3, 4, 5, 16] rfl) ?_
    refine .nil ?_
    exact jr () trivial (by simp only [hb0]; rfl)
  rintro _ _
  by_cases hc : ((decide (((List.length a1.2.1 : Nat) : Int) = 0)) && (decide (((List.length a0.2.1 : Nat) : Int) = 0))) = true
  · replace h := ite_t hc h
    refine cnt hc ?_
    refine .seq ?_
    refine .region ?_
    obtain ⟨x4, hx4, h⟩ := bnd h
    refine vk (vcl0 (ref02_OfInt_ok hx4) Tryz.call38) ?_
    refine stn ?_ gS_R (by decide)
    refine asd ?_
    refine rn ?_
    refine .gh (Gh.keep [2, 3, 4, 5] rfl) ?_
    refine .ret ?_
    cases h
    exact ⟨_, _, ⟨.inr rfl, gA_R, gS_R, (by decide : (0 : Nat) < 3)⟩, rfl, rfl⟩
  replace h := ite_f hc h
  refine cnf (bf hc) ?_
  refine .seq ?_
  refine .region ?_
  refine vk (vfa gF_R_1) ?_
  refine vk (vldp ga_L) ?_
  refine vk (vlnE (L_length _) (L_sz _) gu_L) ?_
  refine vk (vbi) ?_
  refine asd ?_
  refine rn ?_
  refine .gh (Gh.keep [2, 3, 4, 5, 28] rfl) ?_
  by_cases hc : ((List.length a1.2.1 : Nat) : Int) = 0
  · replace h := ite_t hc h
    refine cnt (decide_eq_true hc) ?_
    refine .seq ?_
    refine .region ?_
    refine vk (vbd gP_R gI_R gZ_R) ?_
    refine stn ?_ gS_R (by decide)
    refine asd ?_
    refine rn ?_
    refine .gh (Gh.keep [2, 3, 4, 5] rfl) ?_
    refine .ret ?_
    cases h
    exact ⟨_, _, ⟨.inr rfl, gA_R, gS_R, (by decide : (0 : Nat) < 3)⟩, rfl, rfl⟩
  replace h := ite_f hc h
  refine cnf (decide_eq_false hc) ?_
  refine .skip ?_
  show AW _ _ _ _ _ _
  refine .seq ?_
  refine .drawn 18 mixed (by kernel_rfl) ?_
  refine dv (vfa gF_R_0) ?_
  refine dv (vldp ga_bool) ?_
  refine dv (vfa gF_R_0) ?_
  refine dv (vldp ga_bool) ?_
  refine dv (vbbn (.inr rfl) bo) ?_
  refine dv (vfa gF_R_1) ?_
  refine dv (vldp ga_L) ?_
  refine dv (vfa gF_R_2) ?_
  refine dv (vldp ga_L) ?_
  obtain ⟨x5, hx5, h⟩ := bnd h
  refine dv ((vcl0 (r1Mul_ok hx5) Tryz.call49).deep) ?_
  refine dv (vfa gF_R_2) ?_
  refine dv (vldp ga_L) ?_
  refine dv (vfa gF_R_1) ?_
  refine dv (vldp ga_L) ?_
  obtain ⟨x6, hx6, h⟩ := bnd h
  refine dv ((vcl0 (r1Mul_ok hx6) Tryz.call49).deep) ?_
  obtain ⟨x7, hx7, h⟩ := bnd h
  refine dv (VOK.tupd (vs := [.ag [.b x7.1.1, .sl (L x7.1.2.1), .sl (L x7.1.2.2)], .i .i64 x7.2]) (vcl0 (ref2Make_ok hx7) Tryz.call51)) ?_
  refine dv (vex) ?_
  refine dv (vex) ?_
  refine dz ?_
  refine stn ?_ gS_R (by decide)
  refine asd ?_
  refine rn ?_
  refine .gh (Gh.keep [4, 5] rfl) ?_
  refine .ret ?_
  cases h
  exact ⟨_, _, ⟨.inr rfl, gA_R, gS_R, (by decide : (0 : Nat) < 3)⟩, rfl, rfl⟩

def ref02_Floor (a0 : RT) : Option (RT × Int) := ((ref2Right a0).bind fun x1 => (if x1 = true then ((r1DivMod a0.2.1 a0.2.2).bind fun x2 => (if (a0.1 && (decide (0 < ((List.length x2.2.1 : Nat) : Int)))) = true then (ref2One.bind fun x3 => ((r1Add x2.1 x3).bind fun x4 => (ref2One.bind fun x5 => ((ref2Make a0.1 x4 x5).bind fun x6 => (some (x6.1, x6.2)))))) else (ref2One.bind fun x7 => ((ref2Make a0.1 x2.1 x7).bind fun x8 => (some (x8.1, x8.2)))))) else (some ((false, [], []), 22))))
theorem ref02_Floor_ok {a0 : RT} {r : RT × Int} (h : ref02_Floor a0 = some r) :
    Fn Tryz.prog 23 [.ag [.b a0.1, .sl (L a0.2.1), .sl (L a0.2.2)]] (.tup [.d (.ag [.b r.1.1, .sl (L r.1.2.1), .sl (L r.1.2.2)]), .d (.i .i64 r.2)]) := by
  unfold ref02_Floor at h
  refine Fn.ofC (rs := [.cell 2 24, .tmp 3]) (nt := 37) Tryz.func23 rfl rfl rfl (by simp) rfl ?_
  refine .seq ?_
  refine .region ?_
  refine vk (vbx) ?_
  refine vk (van (zero_of gI_R) gZ_R) ?_
  refine asd ?_
  refine rn ?_
  refine .gh (Gh.keep [1, 2, 3] rfl) ?_
  refine .seq ?_
  refine .seq ?_
  refine .region ?_
  refine vk (vlda gA_R gS_R) ?_
  obtain ⟨x1, hx1, h⟩ := bnd h
  refine vk (vcl0 (ref2Right_ok hx1) Tryz.call20) ?_
  refine vk (vnt) ?_
  refine rn ?_
  refine .gh (Gh.keep [1, 2, 3, 9] rfl) ?_
  by_cases hc : x1 = true
  · replace h := ite_t hc h
    refine cnf (ntf hc) ?_
    refine .skip ?_
    show AW _ _ _ _ _ _
    refine .seq ?_
    refine .region ?_
    refine vk (vfa gF_R_1) ?_
    refine vk (vldp ga_L) ?_
    refine vk (vfa gF_R_2) ?_
    refine vk (vldp ga_L) ?_
    obtain ⟨x2, hx2, h⟩ := bnd h
    refine vk (VOK.tupd (vs := [.sl (L x2.1), .sl (L x2.2.1), .b x2.2.2]) (vcl0 (r1DivMod_ok hx2) Tryz.call57)) ?_
    refine vk (vmvd) ?_
    refine vk (vex) ?_
    refine vk (vex) ?_
    refine vk (vex) ?_
    refine asd ?_
    refine asd ?_
    refine asd ?_
    refine rn ?_
    refine .gh (Gh.keep [1, 2, 3, 4, 5] rfl) ?_
    refine .seq ?_
    refine .seq ?_
    refine AW.mr (σ := Unit) (fun _ => True) (fun _ => [(1, .d (.ptr [.b a0.1, .sl (L a0.2.1), .sl (L a0.2.2)])), (2, .nb [.b false, .sl (L []), .sl (L [])]), (3, .d (.i .i64 0)), (4, .d (.sl (L x2.1))), (26, .d (.b (a0.1 && (decide (0 < ((List.length x2.2.1 : Nat) : Int))))))]) (fun _ => []) ?_ ?_
    · skip
      refine .region ?_
      refine vk (vfa gF_R_0) ?_
      refine vk (vldp ga_bool) ?_
      by_cases hc : a0.1 = true
      · have hb0 : a0.1 = true := hc
        refine vk (VOK.lit (vmvd) hb0) ?_
        refine vk (vmvd) ?_
        refine vk (vlnE (L_length _) (L_sz _) gu_L) ?_
        refine vk (vbi) ?_
        refine vk (vpkd) ?_
        refine RL.gh (Gh.keep [1, 2, 3, 4, 26] rfl) ?_
        refine .nil ?_
        exact jr () trivial (by simp only [hb0]; rfl)
      have hb0 : a0.1 = false := (bf hc)
      refine vk (VOK.lit (vmvd) hb0) ?_
      refine gf ?_
      refine gf ?_
      refine gf ?_
      refine vk (vpkd) ?_
      refine RL.gh (Gh.keep [1, 2, 3, 4, 26] rfl) ?_
      refine .nil ?_
      exact jr () trivial (by simp only [hb0]; rfl)
    rintro _ _
    by_cases hc : (a0.1 && (decide (0 < ((List.length x2.2.1 : Nat) : Int)))) = true
    · replace h := ite_t hc h
      refine cnt hc ?_
      refine .region ?_
      refine vk (vmvd) ?_
      obtain ⟨x3, hx3, h⟩ := bnd h
      refine vk ((vcl0 (ref2One_ok hx3) Tryz.call41).deep) ?_
      obtain ⟨x4, hx4, h⟩ := bnd h
      refine vk ((vcl0 (r1Add_ok hx4) Tryz.call56).deep) ?_
      refine asd ?_
      refine rn ?_
      refine .gh (Gh.keep [1, 2, 3, 4] rfl) ?_
      refine .seq ?_
      refine .drawn 7 mixed (by kernel_rfl) ?_
      refine dv (vfa gF_R_0) ?_
      refine dv (vldp ga_bool) ?_
      refine dv (vmvd) ?_
      obtain ⟨x5, hx5, h⟩ := bnd h
      refine dv ((vcl0 (ref2One_ok hx5) Tryz.call41).deep) ?_
      obtain ⟨x6, hx6, h⟩ := bnd h
      refine dv (VOK.tupd (vs := [.ag [.b x6.1.1, .sl (L x6.1.2.1), .sl (L x6.1.2.2)], .i .i64 x6.2]) (vcl0 (ref2Make_ok hx6) Tryz.call51)) ?_
      refine dv (vex) ?_
      refine dv (vex) ?_
      refine dz ?_
      refine stn ?_ gS_R (by decide)
      refine asd ?_
      refine rn ?_
      refine .gh (Gh.keep [2, 3] rfl) ?_
      refine .ret ?_
      cases h
      exact ⟨_, _, ⟨.inr rfl, gA_R, gS_R, (by decide : (0 : Nat) < 3)⟩, rfl, rfl⟩
    replace h := ite_f hc h
    refine cnf (bf hc) ?_
    refine .skip ?_
    show AW _ _ _ _ _ _
    refine .seq ?_
    refine .drawn 7 mixed (by kernel_rfl) ?_
    refine dv (vfa gF_R_0) ?_
    refine dv (vldp ga_bool) ?_
    refine dv (vmvd) ?_
    obtain ⟨x7, hx7, h⟩ := bnd h
    refine dv ((vcl0 (ref2One_ok hx7) Tryz.call41).deep) ?_
    obtain ⟨x8, hx8, h⟩ := bnd h
    refine dv (VOK.tupd (vs := [.ag [.b x8.1.1, .sl (L x8.1.2.1), .sl (L x8.1.2.2)], .i .i64 x8.2]) (vcl0 (ref2Make_ok hx8) Tryz.call51)) ?_
    refine dv (vex) ?_
    refine dv (vex) ?_
    refine dz ?_
    refine stn ?_ gS_R (by decide)
    refine asd ?_
    refine rn ?_
    refine .gh (Gh.keep [2, 3] rfl) ?_
    refine .ret ?_
    cases h
    exact ⟨_, _, ⟨.inr rfl, gA_R, gS_R, (by decide : (0 : Nat) < 3)⟩, rfl, rfl⟩
  replace h := ite_f hc h
  refine cnt (ntt (bf hc)) ?_
  refine .seq ?_
  refine .region ?_
  refine vk (vbd gP_R gI_R gZ_R) ?_
  refine stn ?_ gS_R (by decide)
  refine asd ?_
  refine rn ?_
  refine .gh (Gh.keep [1, 2, 3] rfl) ?_
  refine .ret ?_
  cases h
  exact ⟨_, _, ⟨.inr rfl, gA_R, gS_R, (by decide : (0 : Nat) < 3)⟩, rfl, rfl⟩

def ref02_IsInt (a0 : RT) : Option (Bool) := ((ref2Right a0).bind fun x1 => (Option.bind ((if x1 = true then (ref2One.bind fun x3 => ((r1Compare a0.2.2 x3).bind fun x4 => (some (decide (x4 = 0))))) else (some false)) : Option (Bool)) fun (z1 : Bool) => (some (z1))))
theorem ref02_IsInt_ok {a0 : RT} {r : Bool} (h : ref02_IsInt a0 = some r) :
    Fn Tryz.prog 37 [.ag [.b a0.1, .sl (L a0.2.1), .sl (L a0.2.2)]] (.d (.b r)) := by
  unfold ref02_IsInt at h
  refine Fn.of (rs := [.tmp 2]) (nt := 12) Tryz.func37 rfl rfl rfl (by simp) rfl ?_
  refine .seq ?_
  refine .region ?_
  refine vk (vbx) ?_
  refine asd ?_
  refine rn ?_
  refine .gh (Gh.keep [1, 2] rfl) ?_
  refine .seq ?_
  obtain ⟨x1, hx1, h⟩ := bnd h
  obtain ⟨z1, hz, h⟩ := bnd h
  refine AW.mr (σ := Unit) (fun _ => True) (fun _ => [(2, .d (.b z1))]) (fun _ => []) ?_ ?_
  · skip
    refine .drawn 9 mixed (by kernel_rfl) ?_
    refine dv (vlda gA_R gS_R) ?_
    refine dv (vcl0 (ref2Right_ok hx1) Tryz.call20) ?_
    by_cases hc : x1 = true
    · replace hz := ite_t hc hz
      have hb0 : x1 = true := hc
      refine dv (VOK.lit (vmvd) hb0) ?_
      refine dv (vfa gF_R_2) ?_
      refine dv (vldp ga_L) ?_
      obtain ⟨x3, hx3, hz⟩ := bnd hz
      refine dv ((vcl0 (ref2One_ok hx3) Tryz.call41).deep) ?_
      obtain ⟨x4, hx4, hz⟩ := bnd hz
      refine dv (vcl0 (r1Compare_ok hx4) Tryz.call55) ?_
      refine dv (vbi) ?_
      refine dv (vpkd) ?_
      refine dz ?_
      refine asd ?_
      refine RL.gh (Gh.keep [2] rfl) ?_
      refine .nil ?_
      cases hz
      exact jr () trivial
    replace hz := ite_f hc hz
    have hb0 : x1 = false := (bf hc)
    refine dv (VOK.lit (vmvd) hb0) ?_
    refine dgf ?_
    refine dgf ?_
    refine dgf ?_
    refine dgf ?_
    refine dgf ?_
    refine dv (vpkd) ?_
    refine dz ?_
    refine asd ?_
    refine RL.gh (Gh.keep [2] rfl) ?_
    refine .nil ?_
    cases hz
    exact jr () trivial
  rintro _ _
  refine .ret ?_
  cases h
  exact ⟨rfl, rfl⟩
end Go.FL
/-
  Plain laws, rat 5: the reference's numbers.
-/
namespace Go.FL
open Go Go.Proofs

theorem r1Mul_eq {m n : Nat} (hm : (digs m).length ≤ 400000) (hn : (digs n).length ≤ 400000) : r1Mul (digs m) (digs n) = some (digs (m * n)) := by
  have : r1Mul (digs m) (digs n) = some (digs (val (digs m) * val (digs n))) := if_pos (by rw [Bool.and_eq_true]; exact ⟨okL_digs hm, okL_digs hn⟩)
  rw [this, val_digs, val_digs]
theorem r1Add_eq {m n : Nat} (hm : (digs m).length ≤ 500000) (hn : (digs n).length ≤ 500000) : r1Add (digs m) (digs n) = some (digs (m + n)) := by
  have : r1Add (digs m) (digs n) = some (digs (val (digs m) + val (digs n))) := if_pos (by rw [Bool.and_eq_true]; exact ⟨okL_digs hm, okL_digs hn⟩)
  rw [this, val_digs, val_digs]
theorem r1Compare_eq {m n : Nat} (hm : (digs m).length ≤ 500000) (hn : (digs n).length ≤ 500000) : r1Compare (digs m) (digs n) = some (cmpN m n) := by
  have : r1Compare (digs m) (digs n) = some (cmpN (val (digs m)) (val (digs n))) := if_pos (by rw [Bool.and_eq_true]; exact ⟨okL_digs (by omega), okL_digs (by omega)⟩)
  rw [this, val_digs, val_digs]
theorem r1Minus_eq {m n : Nat} (hm : (digs m).length ≤ 500000) (hn : (digs n).length ≤ 500000) : r1Minus (digs m) (digs n) = some (digs (minN m n), decide (n ≤ m)) := by
  have : r1Minus (digs m) (digs n) = some (digs (minN (val (digs m)) (val (digs n))), decide (val (digs n) ≤ val (digs m))) := if_pos (by rw [Bool.and_eq_true]; exact ⟨okL_digs hm, okL_digs hn⟩)
  rw [this, val_digs, val_digs]
theorem r1Trim_eq {m : Nat} (hm : (digs m).length ≤ 500000) : r1Trim (digs m) = some (digs m) := by
  have : r1Trim (digs m) = some (digs (val (digs m))) := if_pos (okL_digs (by omega))
  rw [this, val_digs]
theorem r1DivMod_eq {m n : Nat} (hm : (digs m).length ≤ 100000) (hn : (digs n).length ≤ 100000) (h : n ≠ 0) : r1DivMod (digs m) (digs n) = some (digs (m / n), digs (m % n), true) := by
  have : r1DivMod (digs m) (digs n) = some (digs (val (digs m) / val (digs n)), digs (remN (val (digs m)) (val (digs n))), decide (val (digs n) ≠ 0)) := if_pos (by rw [Bool.and_eq_true]; exact ⟨okL_digs hm, okL_digs hn⟩)
  rw [this, val_digs, val_digs, remN_eq h, decide_eq_true h]
/-- Two sizes with signs, together. -/
def signN (a : Nat) (c : Bool) (b : Nat) (d : Bool) : Nat × Bool := if c = d then (a + b, c) else if b ≤ a then (a - b, c) else (b - a, d)
theorem signN_sg (a : Nat) (c : Bool) (b : Nat) (d : Bool) : sg (signN a c b d).2 (signN a c b d).1 = sg c a + sg d b := by
  unfold signN
  split
  · rename_i h; subst h; cases c <;> simp [sg]; omega
  · rename_i h
    split
    · rename_i h2
      cases c <;> cases d <;> simp [sg] at h ⊢ <;> omega
    · rename_i h2
      cases c <;> cases d <;> simp [sg] at h ⊢ <;> omega
theorem signN_le (a : Nat) (c : Bool) (b : Nat) (d : Bool) : (signN a c b d).1 ≤ a + b := by
  unfold signN; split
  · exact Nat.le_refl _
  · split <;> simp <;> omega
theorem signed_eq {a b : Nat} (c d : Bool) (ha : (digs a).length ≤ 500000) (hb : (digs b).length ≤ 500000) : ref02_signed (digs a) c (digs b) d = some (digs (signN a c b d).1, (signN a c b d).2) := by
  unfold ref02_signed signN
  by_cases h : c = d
  · subst h
    rw [if_pos (by simp), if_pos rfl, r1Add_eq ha hb]; rfl
  · rw [if_neg (by simpa using h), if_neg h, r1Compare_eq ha hb, Option.bind_some]
    by_cases h2 : b ≤ a
    · have : 0 ≤ cmpN a b := by unfold cmpN; rw [if_neg (by omega)]; split <;> decide
      rw [if_pos this, if_pos h2, r1Minus_eq ha hb, Option.bind_some, minN, if_pos h2]
    · have : ¬ 0 ≤ cmpN a b := by unfold cmpN; rw [if_pos (by omega)]; decide
      rw [if_neg this, if_neg h2, r1Minus_eq hb ha, Option.bind_some, minN, if_pos (by omega)]
theorem ref2Make_eq {b : Bool} {n d : Nat} (hn : (digs n).length ≤ 100000) (hd : (digs d).length ≤ 100000) (h : d ≠ 0) : ref2Make b (digs n) (digs d) = some (resR (mkRat (sg b n) d)) := by
  have : ref2Make b (digs n) (digs d) = some (resQ (makeE b (val (digs n)) (val (digs d)))) := if_pos (by rw [Bool.and_eq_true]; exact ⟨okL_digs hn, okL_digs hd⟩)
  rw [this, val_digs, val_digs, makeE, if_neg h, lowE_rat h, resQ_lowR]
theorem len2 {a b : Nat} {k : Nat} (ha : (digs a).length ≤ k) (hb : (digs b).length ≤ k) : (digs (a * b)).length ≤ 2 * k := by
  have := mul_len (digs_ok a) (digs_ok b) ha hb
  rwa [val_digs, val_digs] at this
theorem num_sg (p : Rat) : sg (decide (p.num < 0)) p.num.natAbs = p.num := by
  simp only [sg, decide_eq_true_eq]; split <;> omega
theorem sg_mul (b : Bool) (n m : Nat) : sg b (n * m) = sg b n * (m : Int) := by cases b <;> simp [sg, Int.neg_mul]
theorem two_q {p q : Rat} (hp : fits p) (hq : fits q) : ref02_Two (ofQ p) (ofQ q) = some (resR (p + q)) := by
  unfold ref02_Two
  have l1 := len2 hp.1 hq.2
  have l2 := len2 hq.1 hp.2
  have l3 := len2 hp.2 hq.2
  have hs := signN_sg (p.num.natAbs * q.den) (decide (p.num < 0)) (q.num.natAbs * p.den) (decide (q.num < 0))
  have hl := signN_le (p.num.natAbs * q.den) (decide (p.num < 0)) (q.num.natAbs * p.den) (decide (q.num < 0))
  have hl2 := Nat.le_trans (digs_mono hl) (add_len l1 l2)
  refine bind_eq (r1Mul_eq (Nat.le_trans hp.1 (by decide)) (Nat.le_trans hq.2 (by decide))) (bind_eq (r1Mul_eq (Nat.le_trans hq.1 (by decide)) (Nat.le_trans hp.2 (by decide))) (bind_eq (signed_eq _ _ (by omega) (by omega))
    (bind_eq (r1Mul_eq (Nat.le_trans hp.2 (by decide)) (Nat.le_trans hq.2 (by decide))) (bind_eq (ref2Make_eq (Nat.le_trans hl2 (by decide)) (by omega) (Nat.mul_ne_zero p.den_nz q.den_nz)) ?_))))
  have e : p + q = mkRat (sg (signN (p.num.natAbs * q.den) (decide (p.num < 0)) (q.num.natAbs * p.den) (decide (q.num < 0))).2 (signN (p.num.natAbs * q.den) (decide (p.num < 0)) (q.num.natAbs * p.den) (decide (q.num < 0))).1) (p.den * q.den) := by
    rw [Rat.add_def', hs]
    congr 1
    rw [sg_mul, sg_mul, num_sg, num_sg]
  rw [e]; rfl
theorem ref_times_q {p q : Rat} (hp : fits p) (hq : fits q) : ref02_Times (ofQ p) (ofQ q) = some (resR (p * q)) := by
  unfold ref02_Times
  have l1 := len2 hp.1 hq.1
  have l3 := len2 hp.2 hq.2
  refine bind_eq (r1Mul_eq (Nat.le_trans hp.1 (by decide)) (Nat.le_trans hq.1 (by decide))) (bind_eq (r1Mul_eq (Nat.le_trans hp.2 (by decide)) (Nat.le_trans hq.2 (by decide))) (bind_eq (ref2Make_eq (by omega) (by omega) (Nat.mul_ne_zero p.den_nz q.den_nz)) ?_))
  have h : sg ((ofQ p).1 != (ofQ q).1) (p.num.natAbs * q.num.natAbs) = p.num * q.num := by
    rw [← num_sg p, ← num_sg q]
    simp only [num_sg, ofQ]
    have e1 := num_sg p
    have e2 := num_sg q
    cases h1 : decide (p.num < 0) <;> cases h2 : decide (q.num < 0) <;> rw [h1] at e1 <;> rw [h2] at e2 <;> rw [← e1, ← e2] <;> simp [sg, Int.neg_mul, Int.mul_neg]
  rw [h, Rat.mul_def']
theorem ref_copied_q {p : Rat} (hp : fits p) : ref02_copied (ofQ p) = some (ofQ p) := by
  unfold ref02_copied
  exact bind_eq (r1Trim_eq (Nat.le_trans hp.1 (by decide))) (bind_eq (r1Trim_eq (Nat.le_trans hp.2 (by decide))) rfl)
theorem ref_neg_q {p : Rat} (hp : fits p) : ref02_neg (ofQ p) = some (ofQ (-p)) := by
  unfold ref02_neg
  refine bind_eq (ref_copied_q hp) ?_
  have h3 : decide (0 < ((List.length (ofQ p).2.1 : Nat) : Int)) = decide (p ≠ 0) := decide_eq_decide.2 num_pos
  rw [h3, ofQ_neg, ← neg_num_sign]; rfl
theorem right2_eq {a b : RT} (ha : okRB a = true) (hb : okRB b = true) {β : Type} (f : Bool → Option β) : ((ref2Right a).bind fun x1 => Option.bind (if x1 = true then ((ref2Right b).bind fun x3 => some (!x3)) else some true) f) = f (!(rightR a && rightR b)) := by
  rw [ref2Right_eq ha, Option.bind_some]
  cases h : rightR a with
  | false => rfl
  | true => rw [if_pos rfl, ref2Right_eq hb]; rfl
theorem ref_ofInt_q {z : Int} (h1 : -9223372036854775808 ≤ z) (h2 : z ≤ 9223372036854775807) : ref02_OfInt z = some (ofQ z) := by
  unfold ref02_OfInt
  have hof : ∀ n : Nat, n < 18446744073709551616 → r1Of (n : Int) = some (digs n) := fun n hn => by
    have : r1Of (n : Int) = some (digs ((n : Int).toNat)) := if_pos (by omega)
    rw [this, Int.toNat_natCast]
  have e : ofQ (z : Rat) = (decide (z < 0), digs z.natAbs, [1]) := by
    show (decide (z < 0), digs z.natAbs, digs 1) = _
    rw [one_digs]
  by_cases h : z < 0
  · rw [if_pos h, u64_neg h h1, hof _ (by omega), ref2One_eq, e]; rfl
  · rw [if_neg h, u64_nn (by omega) h2, hof _ (by omega), ref2One_eq, e]; rfl
theorem ref_div_q {p q : Rat} (hp : fits p) (hq : fits q) : ref02_Div (ofQ p) (ofQ q) = some (if q = 0 then (if p = 0 then (ofQ 1, 0) else bad 3) else resR (p / q)) := by
  unfold ref02_Div
  rw [right2_eq (ofQ_okRB hp) (ofQ_okRB hq), two_right hp hq]
  rw [if_neg (by decide)]
  by_cases h : q = 0
  · rw [if_pos h]
    by_cases h2 : p = 0
    · rw [if_pos (by rw [decide_eq_true (num_zero.2 h), decide_eq_true (num_zero.2 h2)]; rfl), if_pos h2]
      exact bind_eq (ref_ofInt_q (z := 1) (by decide) (by decide)) rfl
    · rw [if_neg (by rw [decide_eq_false (fun h3 => h2 (num_zero.1 h3))]; simp), if_pos (num_zero.2 h), if_neg h2]
  · rw [if_neg (by rw [decide_eq_false (fun h3 => h (num_zero.1 h3))]; simp), if_neg (fun h3 => h (num_zero.1 h3)), if_neg h]
    have hn : q.num ≠ 0 := fun h2 => h (Rat.num_eq_zero.1 h2)
    have l1 := len2 hp.1 hq.2
    have l3 := len2 hp.2 hq.1
    refine bind_eq (r1Mul_eq (Nat.le_trans hp.1 (by decide)) (Nat.le_trans hq.2 (by decide))) (bind_eq (r1Mul_eq (Nat.le_trans hp.2 (by decide)) (Nat.le_trans hq.1 (by decide))) (bind_eq (ref2Make_eq (by omega) (by omega) (Nat.mul_ne_zero p.den_nz (by omega))) ?_))
    obtain ⟨v1, _⟩ := timesN_rat (x := q3 p) (y := ((q3 q).1, (q3 q).2.2, (q3 q).2.1)) (den_ne p) (by show q.num.natAbs ≠ 0; omega)
    rw [valQ_of, inv_val h, ← Rat.div_def] at v1
    rw [← v1]; rfl
theorem fits_one : fits 1 := ⟨by show (digs 1).length ≤ 32; rw [one_digs]; decide, by show (digs 1).length ≤ 32; rw [one_digs]; decide⟩
theorem ref_isInt_eq {a : RT} (ha : okRB a = true) : ref02_IsInt a = rat_IsInt a := by
  rcases right_cases (r := a) with h | ⟨p, hp, rfl⟩
  · rw [isInt_b ha h]; unfold ref02_IsInt; rw [ref2Right_eq ha, h]; rfl
  · rw [isInt_q hp]; unfold ref02_IsInt
    rw [ref2Right_eq ha, ofQ_right hp, Option.bind_some, if_pos rfl, ref2One_eq, Option.bind_some, ← one_digs]
    rw [show r1Compare (ofQ p).2.2 (digs 1) = some (cmpN p.den 1) from r1Compare_eq (Nat.le_trans hp.2 (by decide)) (by rw [one_digs]; decide), Option.bind_some, Option.bind_some]
    congr 1
    refine decide_eq_decide.2 ?_
    have := p.den_nz
    unfold cmpN
    rw [if_neg (by omega)]
    constructor
    · intro h; by_cases h2 : p.den = 1
      · exact h2
      · rw [if_neg h2] at h; cases h
    · intro h; rw [if_pos h]
theorem mkRat_one (z : Int) : mkRat z 1 = (z : Rat) := by
  refine Rat.ext ?_ ?_
  · rw [Rat.num_mkRat]; simp
  · rw [Rat.den_mkRat]; simp
theorem ref_floor_q {p : Rat} (hp : fits p) : ref02_Floor (ofQ p) = some (resR (p.floor : Rat)) := by
  unfold ref02_Floor
  have hl : (digs (p.num.natAbs / p.den)).length ≤ 32 := Nat.le_trans (digs_mono (Nat.div_le_self _ _)) hp.1
  rw [ref2Right_eq (ofQ_okRB hp), ofQ_right hp, Option.bind_some, if_pos rfl]
  refine bind_eq (r1DivMod_eq (Nat.le_trans hp.1 (by decide)) (Nat.le_trans hp.2 (by decide)) p.den_nz) ?_
  have hc : ((ofQ p).1 && decide ((0 : Int) < ((List.length (digs (p.num.natAbs % p.den)) : Nat) : Int))) = (decide (p.num < 0) && decide (p.num.natAbs % p.den ≠ 0)) := by rw [decide_eq_decide.2 digs_pos_iff]; rfl
  simp only [hc]
  rw [floor_num]
  have low : ∀ n, (digs n).length ≤ 100 → ref2Make (ofQ p).1 (digs n) [1] = some (resR ((sg (decide (p.num < 0)) n : Int) : Rat)) := fun n hn => by
    rw [← one_digs, ref2Make_eq (by omega) (by rw [one_digs]; decide) (by decide), mkRat_one]; rfl
  by_cases h : (decide (p.num < 0) && decide (p.num.natAbs % p.den ≠ 0)) = true
  · rw [if_pos h, if_pos h]
    have h1 := r1Add_eq (m := p.num.natAbs / p.den) (n := 1) (by omega) (by rw [one_digs]; decide)
    rw [one_digs] at h1
    exact bind_eq ref2One_eq (bind_eq h1 (bind_eq ref2One_eq (bind_eq (low _ (Nat.le_trans (add_len (k := 32) hl (by rw [one_digs]; decide)) (by decide))) rfl)))
  · rw [if_neg h, if_neg h]
    exact bind_eq ref2One_eq (bind_eq (low _ (by omega)) rfl)
end Go.FL
/-
  GP: glyphref02: comparisons, copies, texts.
-/
namespace Go.FL
open Go Go.Proofs

end Go.FL
/-
  GP: glyphref02: comparison by a tolerance.
-/
namespace Go.FL
open Go Go.Proofs

end Go.FL
/-
  glyphref01.Power.
-/
namespace Go.FL
open Go Go.Proofs

theorem refPower_fn {a : List Nat} (h : Ok a) (hl : a.length ≤ 1000) {n most : Nat} (hn : n < 9223372036854775808) (hm : most ≤ 1000) : Fn Tryz.prog 43 [.sl (L a), .i .i64 (n : Int), .i .i64 (most : Int)]
    (.tup [.d (.sl (L (digs (pwV (val a) n most)))), .d (.b (decide (pwOK (val a) n most)))]) := by
  have one : digs 1 = [1] := one_limb (n := 1) (by decide) (by decide)
  refine Fn.of (rs := [.tmp 6, .tmp 7]) (nt := 49) Tryz.func43 rfl rfl rfl (by simp) rfl ?_
  refine .seq ?_
  refine .region ?_
  refine asn ?_
  refine asd ?_
  refine rn ?_
  refine .seq ?_
  refine .seq ?_
  refine .region ?_
  refine mvd ?_
  refine bi ?_
  refine rn ?_
  rw [decide_eq_false (show ¬ (n : Int) < 0 by omega)]
  refine cndf ?_
  refine .skip ?_
  show AW _ _ _ _ _ _
  refine .seq ?_
  refine .region ?_
  refine bsl ?_ ?_ e32
  · simp [DV.flat, DV.cells, DV.leaf]
  refine aso ?_
  refine rn ?_
  refine .seq ?_
  refine .region ?_
  refine mvd ?_
  refine cl (xs := [.sl (L a)]) ?_ (refTrim_fn h (by omega)) Tryz.call70
  refine aso ?_
  refine rn ?_
  refine .gh (Gh.frz (p := .t 8) rfl (fun _ _ h => by cases h)) ?_
  refine .gh (Gh.frz (p := .t 9) rfl (fun _ _ h => by cases h)) ?_
  refine .gh (Gh.keep [1, 2, 6, 7, 8, 9] rfl) ?_
  have hdl : (digs (val a)).length ≤ 1000 := Nat.le_trans (digs_len_le h) hl
  generalize val a = V at *
  clear h hl
  have hdz := digs_pos (n := V)
  refine .mid (fun e H' => H' = [] ∧ ∃ p m : Nat, (m ≠ 0 → V ≠ 0) ∧ p = (if V = 0 ∧ 0 < n then 0 else 1) ∧ m = (if V = 0 ∧ 0 < n then 0 else n) ∧ e = [(1, .d (.i .i64 (m : Int))), (2, .d (.i .i64 (most : Int))), (6, .nl), (7, .d (.b false)), (8, .d (.sl (L (digs p)))), (9, .d (.sl (L (digs V))))]) ?_ ?_
  · refine .seq ?_
    refine .region ?_
    refine mvd ?_
    refine ln ?_ (L_sz _) l32
    refine bi ?_
    refine mvd ?_
    by_cases hV : V = 0
    · subst hV
      rw [digs_zero]
      refine mvd ?_
      refine bi ?_
      refine pkd ?_
      refine rn ?_
      by_cases hn0 : 0 < n
      · rw [decide_eq_true (show (0 : Int) < (n : Int) by omega)]
        refine cndt ?_
        refine .seq ?_
        refine .region ?_
        refine asn ?_
        refine rn ?_
        refine .region ?_
        refine asd ?_
        refine RL.gh (Gh.nlD (t := 8) rfl) ?_
        refine RL.gh (Gh.keep [1, 2, 6, 7, 8, 9] rfl) ?_
        refine .nil ?_
        exact ⟨rfl, 0, 0, fun h => absurd rfl h, by simp [hn0], by simp [hn0], by rw [digs_zero]; rfl⟩
      · rw [decide_eq_false (show ¬ (0 : Int) < (n : Int) by omega)]
        refine cndf ?_
        refine .gh (Gh.keep [1, 2, 6, 7, 8, 9] rfl) ?_
        refine .skip ?_
        exact ⟨rfl, 1, n, fun h => absurd (by omega) h, by simp [hn0], by simp [hn0], by rw [one]; rfl⟩
    · have hp := digs_ne (show 0 < V by omega)
      rw [decide_eq_false (show ¬ (((L (digs V)).length : Nat) : Int) = 0 by rw [L_length]; omega)]
      refine gf ?_
      refine gf ?_
      refine pkd ?_
      refine rn ?_
      refine cndf ?_
      refine .gh (Gh.keep [1, 2, 6, 7, 8, 9] rfl) ?_
      refine .skip ?_
      exact ⟨rfl, 1, n, fun _ => hV, by simp [hV], by simp [hV], by rw [one]; rfl⟩
  rintro _ _ ⟨rfl, p, m, hmV, hp, hm', rfl⟩
  have hpm : V ^ n = p * V ^ m ∧ (V ≠ 0 → p ≠ 0) ∧ p ≤ 1 ∧ m < 9223372036854775808 ∧ (V = 1 → p = 1) := by
    rw [hp, hm']
    by_cases hc : V = 0 ∧ 0 < n
    · rw [if_pos hc, if_pos hc, hc.1]
      exact ⟨by rw [Nat.zero_pow hc.2], by simp, by simp, by simp, by simp⟩
    · rw [if_neg hc, if_neg hc]
      exact ⟨by simp, by simp, by simp, hn, by simp⟩
  clear hp hm'
  obtain ⟨q1, q2, q3, q4, q5⟩ := hpm
  have lp : (digs p).length ≤ 1000 := by
    have := digs_mono q3
    rw [one] at this; simp at this; omega
  refine .mid (fun e H' => H' = [] ∧ ∃ p m : Nat, (m ≠ 0 → V ≠ 0) ∧ V ^ n = p * V ^ m ∧ (V ≠ 0 → p ≠ 0) ∧ m < 9223372036854775808 ∧ (digs p).length ≤ 1000 ∧ e = [(1, .d (.i .i64 (m : Int))), (2, .d (.i .i64 (most : Int))), (6, .nl), (7, .d (.b false)), (8, .d (.sl (L (digs p)))), (9, .d (.sl (L (digs V))))]) ?_ ?_
  · refine .seq ?_
    refine .region ?_
    refine mvd ?_
    refine ln ?_ (L_sz _) l32
    refine bi ?_
    refine mvd ?_
    by_cases hl1 : (digs V).length = 1
    · obtain ⟨x, hx⟩ := List.length_eq_one_iff.1 hl1
      have hvx : V = x := by
        have := val_digs V
        rw [hx] at this; simp [val] at this; omega
      rw [decide_eq_true (show (((L (digs V)).length : Nat) : Int) = 1 by rw [L_length]; omega)]
      have hx0 : (digs V)[0]? = some V := by rw [hx, ← hvx]; rfl
      refine mvd ?_
      refine ix 0 ?_ rfl (L_at hx0) rfl s32
      refine ldp ?_ a32
      refine bi ?_
      refine pkd ?_
      refine rn ?_
      by_cases h1 : V = 1
      · rw [decide_eq_true (show (V : Int) = 1 by omega)]
        refine cndt ?_
        refine .region ?_
        refine asd ?_
        refine RL.gh (Gh.keep [1, 2, 6, 7, 8, 9] rfl) ?_
        refine .nil ?_
        exact ⟨rfl, p, 0, by simp, by rw [q1, h1]; simp, q2, by decide, lp, rfl⟩
      · rw [decide_eq_false (show ¬ (V : Int) = 1 by omega)]
        refine cndf ?_
        refine .gh (Gh.keep [1, 2, 6, 7, 8, 9] rfl) ?_
        refine .skip ?_
        exact ⟨rfl, p, m, hmV, q1, q2, q4, lp, rfl⟩
    · rw [decide_eq_false (show ¬ (((L (digs V)).length : Nat) : Int) = 1 by rw [L_length]; omega)]
      refine gf ?_
      refine gf ?_
      refine gf ?_
      refine gf ?_
      refine pkd ?_
      refine rn ?_
      refine cndf ?_
      refine .gh (Gh.keep [1, 2, 6, 7, 8, 9] rfl) ?_
      refine .skip ?_
      exact ⟨rfl, p, m, hmV, q1, q2, q4, lp, rfl⟩
  clear q1 q2 q3 q4 q5 lp hmV
  clear p m
  rintro _ _ ⟨rfl, p, m, w1, w2, w3, w4, w5, rfl⟩
  refine .mid (fun e H' => H' = [] ∧ ∃ p, (pwOK V n most ↔ (digs p).length ≤ most) ∧ (pwOK V n most → p = V ^ n) ∧ e = [(2, .d (.i .i64 (most : Int))), (8, .d (.sl (L (digs p))))]) ?_ ?_
  · refine .block ?_
    refine .loop (.gh (Gh.keep [1, 2, 8, 9] rfl) ?_)
    refine AL.ind (σ := Nat × Nat) (m := fun s => s.2) (e := fun s => [(1, .d (.i .i64 (s.2 : Int))), (2, .d (.i .i64 (most : Int))), (8, .d (.sl (L (digs s.1)))), (9, .d (.sl (L (digs V))))]) (h := fun _ => [])
      (I := fun s => (s.2 ≠ 0 → V ≠ 0) ∧ V ^ n = s.1 * V ^ s.2 ∧ (V ≠ 0 → s.1 ≠ 0) ∧ s.2 < 9223372036854775808 ∧ (digs s.1).length ≤ 3000) ?_ (p, m) ⟨w1, w2, w3, w4, by dsimp only; omega⟩
    clear w1 w2 w3 w4 w5
    clear p m
    rintro ⟨p, m⟩ ⟨w1, w2, w3, w4, w5⟩ ih
    dsimp only at w1 w2 w3 w4 w5 ih ⊢
    refine .seq ?_
    refine .seq ?_
    refine .region ?_
    refine mvd ?_
    refine bi ?_
    refine mvd ?_
    by_cases hm0 : m = 0
    · subst hm0
      refine gf ?_
      refine gf ?_
      refine gf ?_
      refine gf ?_
      refine pkd ?_
      refine rn ?_
      refine cndf ?_
      refine .gh (Gh.keep [2, 8] rfl) ?_
      refine .exit ?_
      have hpe : p = V ^ n := by rw [w2]; simp
      exact ⟨rfl, p, by unfold pwOK; rw [← hpe], fun _ => hpe, rfl⟩
    · rw [decide_eq_true (show (0 : Int) < (m : Int) by omega)]
      refine mvd ?_
      refine ln ?_ (L_sz _) l32
      refine mvd ?_
      refine bi ?_
      refine pkd ?_
      refine rn ?_
      have hV := w1 hm0
      by_cases hbig : (digs p).length ≤ most
      · rw [decide_eq_true (show (((L (digs p)).length : Nat) : Int) ≤ (most : Int) by rw [L_length]; omega)]
        refine cndt ?_
        refine .skip ?_
        show AW _ _ _ _ _ _
        refine .seq ?_
        refine .block ?_
        refine .region ?_
        refine mvd ?_
        refine mvd ?_
        refine cl (xs := [.sl (L (digs p)), .sl (L (digs V))]) ?_ (Mul_fn (digs_ok p) (digs_ok V) (by omega) (by omega)) Tryz.call49
        rw [val_digs, val_digs]
        refine aso ?_
        refine RL.gh (Gh.frz (p := .t 8) rfl (fun _ _ h => by cases h)) ?_
        refine .nil ?_
        show AW _ _ _ _ _ _
        refine .region ?_
        refine mvd ?_
        refine su ((m - 1 : Nat) : Int) ?_ ?_
        · omega
        refine asd ?_
        refine rn ?_
        refine .gh (Gh.keep [1, 2, 8, 9] rfl) ?_
        have hpl : (digs (p * V)).length ≤ 2000 := by
          have h1 := val_lt (digs_ok p)
          have h2 := val_lt (digs_ok V)
          rw [val_digs] at h1 h2
          have := digs_len (n := p * V) (k := (digs p).length + (digs V).length) (by rw [Nat.pow_add]; exact Nat.mul_lt_mul'' h1 h2)
          omega
        refine ih (p * V, m - 1) ⟨fun _ => hV, ?_, fun _ => Nat.mul_ne_zero (w3 hV) hV, by dsimp only; omega, by dsimp only; omega⟩ (by dsimp only; omega)
        dsimp only
        rw [w2, Nat.mul_assoc, ← Nat.pow_succ', show (m - 1).succ = m by omega]
      · rw [decide_eq_false (show ¬ (((L (digs p)).length : Nat) : Int) ≤ (most : Int) by rw [L_length]; omega)]
        refine cndf ?_
        refine .gh (Gh.keep [2, 8] rfl) ?_
        refine .exit ?_
        have hle : p ≤ V ^ n := by rw [w2]; exact Nat.le_mul_of_pos_right _ (Nat.pow_pos (by omega))
        have hno : ¬ pwOK V n most := fun h => by
          have := digs_mono hle
          unfold pwOK at h; omega
        exact ⟨rfl, p, ⟨fun h => absurd h hno, fun h => absurd h hbig⟩, fun h => absurd h hno, rfl⟩
  rintro _ _ ⟨rfl, p, hp1, hp2, rfl⟩
  refine .seq ?_
  refine .seq ?_
  refine .region ?_
  refine mvd ?_
  refine ln ?_ (L_sz _) l32
  refine mvd ?_
  refine bi ?_
  refine rn ?_
  by_cases hf : pwOK V n most
  · have := hp1.1 hf
    have hpe := hp2 hf
    rw [decide_eq_false (show ¬ (most : Int) < ((L (digs p)).length : Nat) by rw [L_length]; omega)]
    refine cndf ?_
    refine .skip ?_
    show AW _ _ _ _ _ _
    refine .seq ?_
    refine .region ?_
    refine mvd ?_
    refine asd ?_
    refine asd ?_
    refine rn ?_
    refine .ret ?_
    exact ⟨by decide, by rw [decide_eq_true hf, pwV, if_pos hf, ← hpe]; rfl, rfl, rfl⟩
  · have hno : ¬ (digs p).length ≤ most := fun h => hf (hp1.2 h)
    rw [decide_eq_true (show (most : Int) < ((L (digs p)).length : Nat) by rw [L_length]; omega)]
    refine cndt ?_
    refine .seq ?_
    refine .region ?_
    refine asn ?_
    refine asd ?_
    refine rn ?_
    refine .gh (Gh.nlD (t := 6) rfl) ?_
    refine .ret ?_
    exact ⟨by decide, by rw [decide_eq_false hf, pwV, if_neg hf, digs_zero]; rfl, rfl, rfl⟩
end Go.FL
/-
  GP, 3b: the power of the reference.
-/
namespace Go.FL
open Go Go.Proofs

def r1Power (a : List Nat) (n : Int) (m : Int) : Option (List Nat × Bool) := if (okL 1000 a && decide (0 ≤ n ∧ n < 9223372036854775808 ∧ 0 ≤ m ∧ m ≤ 1000)) = true then some ((digs (pwV (val a) n.toNat m.toNat), decide (pwOK (val a) n.toNat m.toNat))) else none
theorem r1Power_ok {a : List Nat} {n : Int} {m : Int} {r : List Nat × Bool} (h : r1Power a n m = some r) : Fn Tryz.prog 43 [.sl (L a), .i .i64 n, .i .i64 m] (.tup [.d (.sl (L r.1)), .d (.b r.2)]) := by
  obtain ⟨hc, h⟩ := ite_n h
  cases h
  rw [Bool.and_eq_true, decide_eq_true_eq] at hc
  obtain ⟨h1, h2⟩ := okL_iff.1 hc.1
  have := refPower_fn h1 (by omega) (n := n.toNat) (most := m.toNat) (by omega) (by omega)
  rw [Int.toNat_of_nonneg (by omega), Int.toNat_of_nonneg (by omega)] at this
  exact this
end Go.FL
/-
  GP: factorials; the reference's residues, powers, factorials, binomials.
-/
namespace Go.FL
open Go Go.Proofs

def rat_Factorial_l0 (a0 : RT) : Nat → RT → Int → (List Nat) → (List Nat) → Option (RT × Int)
  | 0, _, _, _, _ => none
  | k + 1, s5, s6, s7, s8 => ((nCompare s8 a0.2.1).bind fun x9 => (if x9 ≤ 0 then ((nProduct ([s7, s8])).bind fun x10 => (if 32 < ((List.length x10 : Nat) : Int) then (some ((false, [], []), 8)) else (ratOne.bind fun x11 => ((nSum ([s8, x11])).bind fun x12 => (rat_Factorial_l0 a0 k s5 s6 x10 x12))))) else (ratOne.bind fun x13 => (some ((false, s7, x13), 0)))))
def rat_Factorial (a0 : RT) : Option (RT × Int) := ((ratRight a0).bind fun x1 => (if x1 = true then ((rat_natural a0).bind fun x2 => (if x2 = true then (ratOne.bind fun x3 => (ratOne.bind fun x4 => (rat_Factorial_l0 a0 FUEL (false, [], []) 0 x3 x4))) else (some ((false, [], []), 3)))) else (some ((false, [], []), 22))))
theorem rat_Factorial_ok {a0 : RT} {r : RT × Int} (h : rat_Factorial a0 = some r) :
    Fn Tryz.prog 10 [.ag [.b a0.1, .sl (L a0.2.1), .sl (L a0.2.2)]] (.tup [.d (.ag [.b r.1.1, .sl (L r.1.2.1), .sl (L r.1.2.2)]), .d (.i .i64 r.2)]) := by
  unfold rat_Factorial at h
  refine Fn.ofC (rs := [.cell 2 24, .tmp 3]) (nt := 38) Tryz.func10 rfl rfl rfl (by simp) rfl ?_
  refine .seq ?_
  refine .region ?_
  refine vk (vbx) ?_
  refine vk (van (zero_of gI_R) gZ_R) ?_
  refine asd ?_
  refine rn ?_
  refine .gh (Gh.keep [1, 2, 3] rfl) ?_
  refine .seq ?_
  refine .block ?_
  refine .seq ?_
  refine .region ?_
  refine vk (vlda gA_R gS_R) ?_
  obtain ⟨x1, hx1, h⟩ := bnd h
  refine vk (vcl0 (ratRight_ok hx1) Tryz.call29) ?_
  refine vk (vnt) ?_
  refine asd ?_
  refine rn ?_
  refine .gh (Gh.keep [1, 2, 3, 6] rfl) ?_
  by_cases hc : x1 = true
  · replace h := ite_t hc h
    refine cnf (ntf hc) ?_
    refine .seq ?_
    refine .region ?_
    refine vk (vlda gA_R gS_R) ?_
    obtain ⟨x2, hx2, h⟩ := bnd h
    refine vk (vcl0 (rat_natural_ok hx2) Tryz.call44) ?_
    refine vk (vnt) ?_
    refine asd ?_
    refine rn ?_
    refine .gh (Gh.keep [1, 2, 3, 11] rfl) ?_
    by_cases hc : x2 = true
    · replace h := ite_t hc h
      refine cnf (ntf hc) ?_
      refine .skip ?_
      show AW _ _ _ _ _ _
      refine .seq ?_
      refine .region ?_
      obtain ⟨x3, hx3, h⟩ := bnd h
      refine vk ((vcl0 (ratOne_ok hx3) Tryz.call34).deep) ?_
      refine asd ?_
      refine rn ?_
      refine .gh (Gh.keep [1, 2, 3, 4] rfl) ?_
      refine .seq ?_
      refine .seq ?_
      refine .region ?_
      obtain ⟨x4, hx4, h⟩ := bnd h
      refine vk ((vcl0 (ratOne_ok hx4) Tryz.call34).deep) ?_
      refine asd ?_
      refine rn ?_
      refine .gh (Gh.keep [1, 2, 3, 4, 5] rfl) ?_
      refine .block ?_
      refine .loop (.gh (Gh.keep [1, 2, 3, 4, 5] rfl) ?_)
      refine AL.ind (σ := Nat × RT × Int × (List Nat) × (List Nat)) (m := fun p => p.1) (e := fun p => [(1, .d (.ptr [.b a0.1, .sl (L a0.2.1), .sl (L a0.2.2)])), (2, .nb [.b p.2.1.1, .sl (L p.2.1.2.1), .sl (L p.2.1.2.2)]), (3, .d (.i .i64 p.2.2.1)), (4, .d (.sl (L p.2.2.2.1))), (5, .d (.sl (L p.2.2.2.2)))]) (h := fun p => []) (I := fun p => rat_Factorial_l0 a0 p.1 p.2.1 p.2.2.1 p.2.2.2.1 p.2.2.2.2 = some r) ?_ (FUEL, (false, [], []), 0, x3, x4) h
      rintro ⟨k, s5, s6, s7, s8⟩ h ih
      dsimp only at h ih ⊢
      rcases k with _ | k
      · rw [rat_Factorial_l0] at h; cases h
      rw [rat_Factorial_l0] at h
      refine .seq ?_
      refine .seq ?_
      refine .region ?_
      refine vk (vmvd) ?_
      refine vk (vfa gF_R_1) ?_
      refine vk (vldp ga_L) ?_
      obtain ⟨x9, hx9, h⟩ := bnd h
      refine vk (vcl0 (nCompare_ok hx9) Tryz.call45) ?_
      refine vk (vbi) ?_
      refine rn ?_
      refine .gh (Gh.keep [1, 2, 3, 4, 5, 22] rfl) ?_
      by_cases hc : x9 ≤ 0
      · replace h := ite_t hc h
        refine cnt (decide_eq_true hc) ?_
        refine .skip ?_
        show AW _ _ _ _ _ _
        refine .seq ?_
        refine .block ?_
        refine .seq ?_
        refine .region ?_
        refine vk (vmvd) ?_
        refine vk (vmvd) ?_
        refine vk ((vbsl (LL_flat [s7, s8]) ge_LL).deep) ?_
        obtain ⟨x10, hx10, h⟩ := bnd h
        refine vk (vcl0 (nProduct_ok hx10) Tryz.call47) ?_
        refine asd ?_
        refine rn ?_
        refine .gh (Gh.keep [1, 2, 3, 4, 5] rfl) ?_
        refine .seq ?_
        refine .region ?_
        refine vk (vmvd) ?_
        refine vk (vlnE (L_length _) (L_sz _) gu_L) ?_
        refine vk (vbi) ?_
        refine rn ?_
        refine .gh (Gh.keep [1, 2, 3, 4, 5, 33] rfl) ?_
        by_cases hc : 32 < ((List.length x10 : Nat) : Int)
        · replace h := ite_t hc h
          refine cnt (decide_eq_true hc) ?_
          refine .seq ?_
          refine .region ?_
          refine vk (vbd gP_R gI_R gZ_R) ?_
          refine stn ?_ gS_R (by decide)
          refine asd ?_
          refine rn ?_
          refine .gh (Gh.keep [1, 2, 3, 4, 5] rfl) ?_
          refine .ret ?_
          cases h
          exact ⟨_, _, ⟨.inr rfl, gA_R, gS_R, (by decide : (0 : Nat) < 3)⟩, rfl, rfl⟩
        replace h := ite_f hc h
        refine cnf (decide_eq_false hc) ?_
        refine .skip ?_
        show AW _ _ _ _ _ _
        refine .region ?_
        refine vk (vmvd) ?_
        obtain ⟨x11, hx11, h⟩ := bnd h
        refine vk ((vcl0 (ratOne_ok hx11) Tryz.call34).deep) ?_
        refine vk ((vbsl (LL_flat [s8, x11]) ge_LL).deep) ?_
        obtain ⟨x12, hx12, h⟩ := bnd h
        refine vk (vcl0 (nSum_ok hx12) Tryz.call46) ?_
        refine asd ?_
        refine .nil ?_
        refine AL.gh (Gh.keep [1, 2, 3, 4, 5] rfl) ?_
        exact ih (k, s5, s6, x10, x12) h (Nat.lt_succ_self _)
      replace h := ite_f hc h
      refine cnf (decide_eq_false hc) ?_
      refine .exit ?_
      show AW _ _ _ _ _ _
      refine .seq ?_
      refine .region ?_
      refine vk (vmvd) ?_
      obtain ⟨x13, hx13, h⟩ := bnd h
      refine vk ((vcl0 (ratOne_ok hx13) Tryz.call34).deep) ?_
      refine vk (vbd gP_R gI_R gZ_R) ?_
      refine stn ?_ gS_R (by decide)
      refine asd ?_
      refine rn ?_
      refine .gh (Gh.keep [2, 3] rfl) ?_
      refine .ret ?_
      cases h
      exact ⟨_, _, ⟨.inr rfl, gA_R, gS_R, (by decide : (0 : Nat) < 3)⟩, rfl, rfl⟩
    replace h := ite_f hc h
    refine cnt (ntt (bf hc)) ?_
    refine .seq ?_
    refine .region ?_
    refine vk (vbd gP_R gI_R gZ_R) ?_
    refine stn ?_ gS_R (by decide)
    refine asd ?_
    refine rn ?_
    refine .gh (Gh.keep [1, 2, 3] rfl) ?_
    refine .ret ?_
    cases h
    exact ⟨_, _, ⟨.inr rfl, gA_R, gS_R, (by decide : (0 : Nat) < 3)⟩, rfl, rfl⟩
  replace h := ite_f hc h
  refine cnt (ntt (bf hc)) ?_
  refine .seq ?_
  refine .region ?_
  refine vk (vbd gP_R gI_R gZ_R) ?_
  refine stn ?_ gS_R (by decide)
  refine asd ?_
  refine rn ?_
  refine .gh (Gh.keep [1, 2, 3] rfl) ?_
  refine .ret ?_
  cases h
  exact ⟨_, _, ⟨.inr rfl, gA_R, gS_R, (by decide : (0 : Nat) < 3)⟩, rfl, rfl⟩

def ref02_Residue (a0 : RT) (a1 : RT) : Option (RT × Int) := ((ref2Right a0).bind fun x1 => (Option.bind ((if x1 = true then ((ref2Right a1).bind fun x3 => (some (!x3))) else (some true)) : Option (Bool)) fun (z1 : Bool) => (if z1 = true then (some ((false, [], []), 22)) else (if ((List.length a0.2.1 : Nat) : Int) = 0 then ((ref02_copied a1).bind fun x4 => (some (x4, 0))) else ((ref02_Div a1 a0).bind fun x5 => (if x5.2 = 0 then ((ref02_Floor x5.1).bind fun x6 => (if x6.2 = 0 then ((ref02_Times a0 x6.1).bind fun x7 => (if x7.2 = 0 then ((ref02_neg x7.1).bind fun x8 => ((ref02_Two a1 x8).bind fun x9 => (some (x9.1, x9.2)))) else (some ((false, [], []), x7.2)))) else (some ((false, [], []), x6.2)))) else (some ((false, [], []), x5.2))))))))
theorem ref02_Residue_ok {a0 : RT} {a1 : RT} {r : RT × Int} (h : ref02_Residue a0 a1 = some r) :
    Fn Tryz.prog 5 [.ag [.b a0.1, .sl (L a0.2.1), .sl (L a0.2.2)], .ag [.b a1.1, .sl (L a1.2.1), .sl (L a1.2.2)]] (.tup [.d (.ag [.b r.1.1, .sl (L r.1.2.1), .sl (L r.1.2.2)]), .d (.i .i64 r.2)]) := by
  unfold ref02_Residue at h
  refine Fn.ofC (rs := [.cell 4 24, .tmp 5]) (nt := 59) Tryz.func5 rfl rfl rfl (by simp) rfl ?_
  refine .seq ?_
  refine .region ?_
  refine vk (vbx) ?_
  refine vk (vbx) ?_
  refine vk (van (zero_of gI_R) gZ_R) ?_
  refine asd ?_
  refine rn ?_
  refine .gh (Gh.keep [2, 3, 4, 5] rfl) ?_
  refine .seq ?_
  refine .seq ?_
  obtain ⟨x1, hx1, h⟩ := bnd h
  obtain ⟨z1, hz, h⟩ := bnd h
  refine AW.mr (σ := Unit) (fun _ => True) (fun _ => [(2, .d (.ptr [.b a0.1, .sl (L a0.2.1), .sl (L a0.2.2)])), (3, .d (.ptr [.b a1.1, .sl (L a1.2.1), .sl (L a1.2.2)])), (4, .nb [.b false, .sl (L []), .sl (L [])]), (5, .d (.i .i64 0)), (16, .d (.b z1))]) (fun _ => []) ?_ ?_
  · skip
    refine .region ?_
    refine vk (vlda gA_R gS_R) ?_
    refine vk (vcl0 (ref2Right_ok hx1) Tryz.call20) ?_
    refine vk (vnt) ?_
    by_cases hc : x1 = true
    · replace hz := ite_t hc hz
      have hb0 : (!x1) = false := (ntf hc)
      refine vk (VOK.lit (vmvd) hb0) ?_
      refine vk (vlda gA_R gS_R) ?_
      obtain ⟨x3, hx3, hz⟩ := bnd hz
      refine vk (vcl0 (ref2Right_ok hx3) Tryz.call20) ?_
      refine vk (vnt) ?_
      refine vk (vpkd) ?_
      refine RL.gh (Gh.keep [2, 3, 4, 5, 16] rfl) ?_
      refine .nil ?_
      cases hz
      exact jr () trivial
    replace hz := ite_f hc hz
    have hb0 : (!x1) = true := (ntt (bf hc))
    refine vk (VOK.lit (vmvd) hb0) ?_
    refine gf ?_
    refine gf ?_
    refine gf ?_
    refine vk (vpkd) ?_
    refine RL.gh (Gh.keep [2, 3, 4, 5, 16] rfl) ?_
    refine .nil ?_
    cases hz
    exact jr () trivial
  rintro _ _
  by_cases hc : z1 = true
  · replace h := ite_t hc h
    refine cnt hc ?_
    refine .seq ?_
    refine .region ?_
    refine vk (vbd gP_R gI_R gZ_R) ?_
    refine stn ?_ gS_R (by decide)
    refine asd ?_
    refine rn ?_
    refine .gh (Gh.keep [2, 3, 4, 5] rfl) ?_
    refine .ret ?_
    cases h
    exact ⟨_, _, ⟨.inr rfl, gA_R, gS_R, (by decide : (0 : Nat) < 3)⟩, rfl, rfl⟩
  replace h := ite_f hc h
  refine cnf (bf hc) ?_
  refine .skip ?_
  show AW _ _ _ _ _ _
  refine .seq ?_
  refine .seq ?_
  refine .region ?_
  refine vk (vfa gF_R_1) ?_
  refine vk (vldp ga_L) ?_
  refine vk (vlnE (L_length _) (L_sz _) gu_L) ?_
  refine vk (vbi) ?_
  refine rn ?_
  refine .gh (Gh.keep [2, 3, 4, 5, 21] rfl) ?_
  by_cases hc : ((List.length a0.2.1 : Nat) : Int) = 0
  · replace h := ite_t hc h
    refine cnt (decide_eq_true hc) ?_
    refine .seq ?_
    refine .region ?_
    refine vk (vlda gA_R gS_R) ?_
    obtain ⟨x4, hx4, h⟩ := bnd h
    refine vk (vcl0 (ref02_copied_ok hx4) Tryz.call21) ?_
    refine stn ?_ gS_R (by decide)
    refine asd ?_
    refine rn ?_
    refine .gh (Gh.keep [2, 3, 4, 5] rfl) ?_
    refine .ret ?_
    cases h
    exact ⟨_, _, ⟨.inr rfl, gA_R, gS_R, (by decide : (0 : Nat) < 3)⟩, rfl, rfl⟩
  replace h := ite_f hc h
  refine cnf (decide_eq_false hc) ?_
  refine .skip ?_
  show AW _ _ _ _ _ _
  refine .seq ?_
  refine .region ?_
  refine vk (vlda gA_R gS_R) ?_
  refine vk (vlda gA_R gS_R) ?_
  obtain ⟨x5, hx5, h⟩ := bnd h
  refine vk (VOK.tupd (vs := [.ag [.b x5.1.1, .sl (L x5.1.2.1), .sl (L x5.1.2.2)], .i .i64 x5.2]) (vcl0 (ref02_Div_ok hx5) Tryz.call22)) ?_
  refine vk (vmvd) ?_
  refine vk (vex) ?_
  refine vk (vex) ?_
  refine vk (van (zero_of gI_R) gZ_R) ?_
  refine stn ?_ gS_R (by decide)
  refine asd ?_
  refine rn ?_
  refine .gh (Gh.keep [2, 3, 4, 5, 6, 7] rfl) ?_
  refine .seq ?_
  refine .seq ?_
  refine .region ?_
  refine vk (vmvd) ?_
  refine vk (vbi) ?_
  refine rn ?_
  refine .gh (Gh.keep [2, 3, 4, 5, 6, 7, 31] rfl) ?_
  by_cases hc : x5.2 = 0
  · replace h := ite_t hc h
    refine cnf (ntf (decide_eq_true hc)) ?_
    refine .skip ?_
    show AW _ _ _ _ _ _
    refine .seq ?_
    refine .region ?_
    refine vk (vldn gA_R gS_R) ?_
    obtain ⟨x6, hx6, h⟩ := bnd h
    refine vk (VOK.tupd (vs := [.ag [.b x6.1.1, .sl (L x6.1.2.1), .sl (L x6.1.2.2)], .i .i64 x6.2]) (vcl0 (ref02_Floor_ok hx6) Tryz.call23)) ?_
    refine vk (vmvd) ?_
    refine vk (vex) ?_
    refine vk (vex) ?_
    refine stn ?_ gS_R (by decide)
    refine asd ?_
    refine rn ?_
    refine .gh (Gh.keep [2, 3, 4, 5, 6, 7] rfl) ?_
    refine .seq ?_
    refine .seq ?_
    refine .region ?_
    refine vk (vmvd) ?_
    refine vk (vbi) ?_
    refine rn ?_
    refine .gh (Gh.keep [2, 3, 4, 5, 6, 7, 40] rfl) ?_
    by_cases hc : x6.2 = 0
    · replace h := ite_t hc h
      refine cnf (ntf (decide_eq_true hc)) ?_
      refine .skip ?_
      show AW _ _ _ _ _ _
      refine .seq ?_
      refine .region ?_
      refine vk (vlda gA_R gS_R) ?_
      refine vk (vldn gA_R gS_R) ?_
      obtain ⟨x7, hx7, h⟩ := bnd h
      refine vk (VOK.tupd (vs := [.ag [.b x7.1.1, .sl (L x7.1.2.1), .sl (L x7.1.2.2)], .i .i64 x7.2]) (vcl0 (ref02_Times_ok hx7) Tryz.call24)) ?_
      refine vk (vmvd) ?_
      refine vk (vex) ?_
      refine vk (vex) ?_
      refine vk (van (zero_of gI_R) gZ_R) ?_
      refine stn ?_ gS_R (by decide)
      refine asd ?_
      refine rn ?_
      refine .gh (Gh.keep [3, 4, 5, 7, 8] rfl) ?_
      refine .seq ?_
      refine .seq ?_
      refine .region ?_
      refine vk (vmvd) ?_
      refine vk (vbi) ?_
      refine rn ?_
      refine .gh (Gh.keep [3, 4, 5, 7, 8, 50] rfl) ?_
      by_cases hc : x7.2 = 0
      · replace h := ite_t hc h
        refine cnf (ntf (decide_eq_true hc)) ?_
        refine .skip ?_
        show AW _ _ _ _ _ _
        refine .seq ?_
        refine .drawn 6 mixed (by kernel_rfl) ?_
        refine dv (vlda gA_R gS_R) ?_
        refine dv (vldn gA_R gS_R) ?_
        obtain ⟨x8, hx8, h⟩ := bnd h
        refine dv (vcl0 (ref02_neg_ok hx8) Tryz.call26) ?_
        obtain ⟨x9, hx9, h⟩ := bnd h
        refine dv (VOK.tupd (vs := [.ag [.b x9.1.1, .sl (L x9.1.2.1), .sl (L x9.1.2.2)], .i .i64 x9.2]) (vcl0 (ref02_Two_ok hx9) Tryz.call25)) ?_
        refine dv (vex) ?_
        refine dv (vex) ?_
        refine dz ?_
        refine stn ?_ gS_R (by decide)
        refine asd ?_
        refine rn ?_
        refine .gh (Gh.keep [4, 5] rfl) ?_
        refine .ret ?_
        cases h
        exact ⟨_, _, ⟨.inr rfl, gA_R, gS_R, (by decide : (0 : Nat) < 3)⟩, rfl, rfl⟩
      replace h := ite_f hc h
      refine cnt (ntt (decide_eq_false hc)) ?_
      refine .seq ?_
      refine .region ?_
      refine vk (vbd gP_R gI_R gZ_R) ?_
      refine vk (vmvd) ?_
      refine stn ?_ gS_R (by decide)
      refine asd ?_
      refine rn ?_
      refine .gh (Gh.keep [3, 4, 5, 8] rfl) ?_
      refine .ret ?_
      cases h
      exact ⟨_, _, ⟨.inr rfl, gA_R, gS_R, (by decide : (0 : Nat) < 3)⟩, rfl, rfl⟩
    replace h := ite_f hc h
    refine cnt (ntt (decide_eq_false hc)) ?_
    refine .seq ?_
    refine .region ?_
    refine vk (vbd gP_R gI_R gZ_R) ?_
    refine vk (vmvd) ?_
    refine stn ?_ gS_R (by decide)
    refine asd ?_
    refine rn ?_
    refine .gh (Gh.keep [2, 3, 4, 5, 6] rfl) ?_
    refine .ret ?_
    cases h
    exact ⟨_, _, ⟨.inr rfl, gA_R, gS_R, (by decide : (0 : Nat) < 3)⟩, rfl, rfl⟩
  replace h := ite_f hc h
  refine cnt (ntt (decide_eq_false hc)) ?_
  refine .seq ?_
  refine .region ?_
  refine vk (vbd gP_R gI_R gZ_R) ?_
  refine vk (vmvd) ?_
  refine stn ?_ gS_R (by decide)
  refine asd ?_
  refine rn ?_
  refine .gh (Gh.keep [2, 3, 4, 5, 6] rfl) ?_
  refine .ret ?_
  cases h
  exact ⟨_, _, ⟨.inr rfl, gA_R, gS_R, (by decide : (0 : Nat) < 3)⟩, rfl, rfl⟩

def ref02_Power (a0 : RT) (a1 : RT) : Option (RT × Int) := ((ref2Right a0).bind fun x1 => (Option.bind ((if x1 = true then ((ref2Right a1).bind fun x3 => (some (!x3))) else (some true)) : Option (Bool)) fun (z1 : Bool) => (if z1 = true then (some ((false, [], []), 22)) else ((ref02_IsInt a1).bind fun x4 => (if x4 = true then (if ((List.length a1.2.1 : Nat) : Int) = 0 then ((ref02_OfInt 1).bind fun x5 => (some (x5, 0))) else (if ((decide (((List.length a0.2.1 : Nat) : Int) = 0)) && a1.1) = true then (some ((false, [], []), 3)) else (if ((List.length a0.2.1 : Nat) : Int) = 0 then (ref2Zero.bind fun x6 => (some (x6, 0))) else ((rd? a1.2.1 0).bind fun x7 => (ref2One.bind fun x8 => ((r1Same a0.2.1 x8).bind fun x9 => (Option.bind ((if x9 = true then (ref2One.bind fun x11 => ((r1Same a0.2.2 x11).bind fun x12 => (some x12))) else (some false)) : Option (Bool)) fun (z8 : Bool) => (if z8 = true then (ref2One.bind fun x13 => (ref2One.bind fun x14 => (some (((a0.1 && (decide ((bits .and .u32 ((x7 : Nat) : Int) 1) = 1))), x13, x14), 0)))) else ((r1Small a1.2.1).bind fun x15 => (if ((!x15.2) || (decide (1024 < x15.1))) = true then (some ((false, [], []), 8)) else ((r1Power a0.2.1 x15.1 32).bind fun x16 => ((r1Power a0.2.2 x15.1 32).bind fun x17 => (if ((!x16.2) || (!x17.2)) = true then (some ((false, [], []), 8)) else (if a1.1 = true then (some (((a0.1 && (decide ((bits .and .u32 ((x7 : Nat) : Int) 1) = 1))), x17.1, x16.1), 0)) else (some (((a0.1 && (decide ((bits .and .u32 ((x7 : Nat) : Int) 1) = 1))), x16.1, x17.1), 0)))))))))))))))) else (some ((false, [], []), 3)))))))
set_option maxHeartbeats 4000000 in
theorem ref02_Power_ok {a0 : RT} {a1 : RT} {r : RT × Int} (h : ref02_Power a0 a1 = some r) :
    Fn Tryz.prog 9 [.ag [.b a0.1, .sl (L a0.2.1), .sl (L a0.2.2)], .ag [.b a1.1, .sl (L a1.2.1), .sl (L a1.2.2)]] (.tup [.d (.ag [.b r.1.1, .sl (L r.1.2.1), .sl (L r.1.2.2)]), .d (.i .i64 r.2)]) := by
  unfold ref02_Power at h
  refine Fn.ofC (rs := [.cell 4 24, .tmp 5]) (nt := 118) Tryz.func9 rfl rfl rfl (by simp) rfl ?_
  refine .seq ?_
  refine .region ?_
  refine vk (vbx) ?_
  refine vk (vbx) ?_
  refine vk (van (zero_of gI_R) gZ_R) ?_
  refine asd ?_
  refine rn ?_
  refine .gh (Gh.keep [2, 3, 4, 5] rfl) ?_
  refine .seq ?_
  refine .block ?_
  refine .seq ?_
  obtain ⟨x1, hx1, h⟩ := bnd h
  obtain ⟨z1, hz, h⟩ := bnd h
  refine AW.mr (σ := Unit) (fun _ => True) (fun _ => [(2, .d (.ptr [.b a0.1, .sl (L a0.2.1), .sl (L a0.2.2)])), (3, .d (.ptr [.b a1.1, .sl (L a1.2.1), .sl (L a1.2.2)])), (4, .nb [.b false, .sl (L []), .sl (L [])]), (5, .d (.i .i64 0)), (14, .d (.b z1))]) (fun _ => []) ?_ ?_
  · skip
    refine .region ?_
    refine vk (vlda gA_R gS_R) ?_
    refine vk (vcl0 (ref2Right_ok hx1) Tryz.call20) ?_
    refine vk (vnt) ?_
    by_cases hc : x1 = true
    · replace hz := ite_t hc hz
      have hb0 : (!x1) = false := (ntf hc)
      refine vk (VOK.lit (vmvd) hb0) ?_
      refine vk (vlda gA_R gS_R) ?_
      obtain ⟨x3, hx3, hz⟩ := bnd hz
      refine vk (vcl0 (ref2Right_ok hx3) Tryz.call20) ?_
      refine vk (vnt) ?_
      refine vk (vpkd) ?_
      refine asd ?_
      refine RL.gh (Gh.keep [2, 3, 4, 5, 14] rfl) ?_
      refine .nil ?_
      cases hz
      exact jr () trivial
    replace hz := ite_f hc hz
    have hb0 : (!x1) = true := (ntt (bf hc))
    refine vk (VOK.lit (vmvd) hb0) ?_
    refine gf ?_
    refine gf ?_
    refine gf ?_
    refine vk (vpkd) ?_
    refine asd ?_
    refine RL.gh (Gh.keep [2, 3, 4, 5, 14] rfl) ?_
    refine .nil ?_
    cases hz
    exact jr () trivial
  rintro _ _
  by_cases hc : z1 = true
  · replace h := ite_t hc h
    refine cnt hc ?_
    refine .seq ?_
    refine .region ?_
    refine vk (vbd gP_R gI_R gZ_R) ?_
    refine stn ?_ gS_R (by decide)
    refine asd ?_
    refine rn ?_
    refine .gh (Gh.keep [2, 3, 4, 5] rfl) ?_
    refine .ret ?_
    cases h
    exact ⟨_, _, ⟨.inr rfl, gA_R, gS_R, (by decide : (0 : Nat) < 3)⟩, rfl, rfl⟩
  replace h := ite_f hc h
  refine cnf (bf hc) ?_
  refine .seq ?_
  refine .region ?_
  refine vk (vlda gA_R gS_R) ?_
  obtain ⟨x4, hx4, h⟩ := bnd h
  refine vk (vcl0 (ref02_IsInt_ok hx4) Tryz.call37) ?_
  refine vk (vnt) ?_
  refine asd ?_
  refine rn ?_
  refine .gh (Gh.keep [2, 3, 4, 5, 24] rfl) ?_
  by_cases hc : x4 = true
  · replace h := ite_t hc h
    refine cnf (ntf hc) ?_
    refine .seq ?_
    refine .region ?_
    refine vk (vfa gF_R_1) ?_
    refine vk (vldp ga_L) ?_
    refine vk (vlnE (L_length _) (L_sz _) gu_L) ?_
    refine vk (vbi) ?_
    refine asd ?_
    refine rn ?_
    refine .gh (Gh.keep [2, 3, 4, 5, 29] rfl) ?_
    by_cases hc : ((List.length a1.2.1 : Nat) : Int) = 0
    · replace h := ite_t hc h
      refine cnt (decide_eq_true hc) ?_
      refine .seq ?_
      refine .region ?_
      obtain ⟨x5, hx5, h⟩ := bnd h
      refine vk (vcl0 (ref02_OfInt_ok hx5) Tryz.call38) ?_
      refine stn ?_ gS_R (by decide)
      refine asd ?_
      refine rn ?_
      refine .gh (Gh.keep [2, 3, 4, 5] rfl) ?_
      refine .ret ?_
      cases h
      exact ⟨_, _, ⟨.inr rfl, gA_R, gS_R, (by decide : (0 : Nat) < 3)⟩, rfl, rfl⟩
    replace h := ite_f hc h
    refine cnf (decide_eq_false hc) ?_
    refine .seq ?_
    refine AW.mr (σ := Unit) (fun _ => True) (fun _ => [(2, .d (.ptr [.b a0.1, .sl (L a0.2.1), .sl (L a0.2.2)])), (3, .d (.ptr [.b a1.1, .sl (L a1.2.1), .sl (L a1.2.2)])), (4, .nb [.b false, .sl (L []), .sl (L [])]), (5, .d (.i .i64 0)), (35, .d (.b ((decide (((List.length a0.2.1 : Nat) : Int) = 0)) && a1.1)))]) (fun _ => []) ?_ ?_
    · skip
      refine .region ?_
      refine vk (vfa gF_R_1) ?_
      refine vk (vldp ga_L) ?_
      refine vk (vlnE (L_length _) (L_sz _) gu_L) ?_
      refine vk (vbi) ?_
      by_cases hc : ((List.length a0.2.1 : Nat) : Int) = 0
      · have hb0 : (decide (((List.length a0.2.1 : Nat) : Int) = 0)) = true := (decide_eq_true hc)
        refine vk (VOK.lit (vmvd) hb0) ?_
        refine vk (vfa gF_R_0) ?_
        refine vk (vldp ga_bool) ?_
        refine vk (vpkd) ?_
        refine asd ?_
        refine RL.gh (Gh.keep [2, 3, 4, 5, 35] rfl) ?_
        refine .nil ?_
        exact jr () trivial (by simp only [hb0]; rfl)
      have hb0 : (decide (((List.length a0.2.1 : Nat) : Int) = 0)) = false := (decide_eq_false hc)
      refine vk (VOK.lit (vmvd) hb0) ?_
      refine gf ?_
      refine gf ?_
      refine vk (vpkd) ?_
      refine asd ?_
      refine RL.gh (Gh.keep [2, 3, 4, 5, 35] rfl) ?_
      refine .nil ?_
      exact jr () trivial (by simp only [hb0]; rfl)
    rintro _ _
    by_cases hc : ((decide (((List.length a0.2.1 : Nat) : Int) = 0)) && a1.1) = true
    · replace h := ite_t hc h
      refine cnt hc ?_
      refine .seq ?_
      refine .region ?_
      refine vk (vbd gP_R gI_R gZ_R) ?_
      refine stn ?_ gS_R (by decide)
      refine asd ?_
      refine rn ?_
      refine .gh (Gh.keep [2, 3, 4, 5] rfl) ?_
      refine .ret ?_
      cases h
      exact ⟨_, _, ⟨.inr rfl, gA_R, gS_R, (by decide : (0 : Nat) < 3)⟩, rfl, rfl⟩
    replace h := ite_f hc h
    refine cnf (bf hc) ?_
    refine .seq ?_
    refine .region ?_
    refine vk (vfa gF_R_1) ?_
    refine vk (vldp ga_L) ?_
    refine vk (vlnE (L_length _) (L_sz _) gu_L) ?_
    refine vk (vbi) ?_
    refine asd ?_
    refine rn ?_
    refine .gh (Gh.keep [2, 3, 4, 5, 45] rfl) ?_
    by_cases hc : ((List.length a0.2.1 : Nat) : Int) = 0
    · replace h := ite_t hc h
      refine cnt (decide_eq_true hc) ?_
      refine .seq ?_
      refine .region ?_
      obtain ⟨x6, hx6, h⟩ := bnd h
      refine vk (vcl0 (ref2Zero_ok hx6) Tryz.call39) ?_
      refine stn ?_ gS_R (by decide)
      refine asd ?_
      refine rn ?_
      refine .gh (Gh.keep [2, 3, 4, 5] rfl) ?_
      refine .ret ?_
      cases h
      exact ⟨_, _, ⟨.inr rfl, gA_R, gS_R, (by decide : (0 : Nat) < 3)⟩, rfl, rfl⟩
    replace h := ite_f hc h
    refine cnf (decide_eq_false hc) ?_
    refine .skip ?_
    show AW _ _ _ _ _ _
    refine .seq ?_
    refine .region ?_
    refine vk (vfa gF_R_1) ?_
    refine vk (vldp ga_L) ?_
    obtain ⟨x7, hx7, h⟩ := bnd h
    obtain ⟨nx7, hnx7, hxx7⟩ := rd_some hx7
    refine vk (vix nx7 hnx7 (L_at hxx7) rfl gs_L) ?_
    refine vk (vldp ga_uint32) ?_
    refine vk (vbi) ?_
    refine vk (vbi) ?_
    refine asd ?_
    refine rn ?_
    refine .gh (Gh.keep [2, 3, 4, 5, 6] rfl) ?_
    refine .seq ?_
    refine AW.mr (σ := Unit) (fun _ => True) (fun _ => [(2, .d (.ptr [.b a0.1, .sl (L a0.2.1), .sl (L a0.2.2)])), (3, .d (.ptr [.b a1.1, .sl (L a1.2.1), .sl (L a1.2.2)])), (4, .nb [.b false, .sl (L []), .sl (L [])]), (5, .d (.i .i64 0)), (7, .d (.b (a0.1 && (decide ((bits .and .u32 ((x7 : Nat) : Int) 1) = 1)))))]) (fun _ => []) ?_ ?_
    · skip
      refine .region ?_
      refine vk (vfa gF_R_0) ?_
      refine vk (vldp ga_bool) ?_
      by_cases hc : a0.1 = true
      · have hb0 : a0.1 = true := hc
        refine vk (VOK.lit (vmvd) hb0) ?_
        refine vk (vmvd) ?_
        refine vk (vpkd) ?_
        refine asd ?_
        refine RL.gh (Gh.keep [2, 3, 4, 5, 7] rfl) ?_
        refine .nil ?_
        exact jr () trivial (by simp only [hb0]; rfl)
      have hb0 : a0.1 = false := (bf hc)
      refine vk (VOK.lit (vmvd) hb0) ?_
      refine gf ?_
      refine vk (vpkd) ?_
      refine asd ?_
      refine RL.gh (Gh.keep [2, 3, 4, 5, 7] rfl) ?_
      refine .nil ?_
      exact jr () trivial (by simp only [hb0]; rfl)
    rintro _ _
    refine .seq ?_
    refine .seq ?_
    obtain ⟨x8, hx8, h⟩ := bnd h
    obtain ⟨x9, hx9, h⟩ := bnd h
    obtain ⟨z8, hz, h⟩ := bnd h
    refine AW.mr (σ := Unit) (fun _ => True) (fun _ => [(2, .d (.ptr [.b a0.1, .sl (L a0.2.1), .sl (L a0.2.2)])), (3, .d (.ptr [.b a1.1, .sl (L a1.2.1), .sl (L a1.2.2)])), (4, .nb [.b false, .sl (L []), .sl (L [])]), (5, .d (.i .i64 0)), (7, .d (.b (a0.1 && (decide ((bits .and .u32 ((x7 : Nat) : Int) 1) = 1))))), (71, .d (.b z8))]) (fun _ => []) ?_ ?_
    · skip
      refine .drawn 10 mixed (by kernel_rfl) ?_
      refine dv (vfa gF_R_1) ?_
      refine dv (vldp ga_L) ?_
      refine dv ((vcl0 (ref2One_ok hx8) Tryz.call41).deep) ?_
      refine dv (vcl0 (r1Same_ok hx9) Tryz.call40) ?_
      by_cases hc : x9 = true
      · replace hz := ite_t hc hz
        have hb0 : x9 = true := hc
        refine dv (VOK.lit (vmvd) hb0) ?_
        refine dv (vfa gF_R_2) ?_
        refine dv (vldp ga_L) ?_
        obtain ⟨x11, hx11, hz⟩ := bnd hz
        refine dv ((vcl0 (ref2One_ok hx11) Tryz.call41).deep) ?_
        obtain ⟨x12, hx12, hz⟩ := bnd hz
        refine dv (vcl0 (r1Same_ok hx12) Tryz.call40) ?_
        refine dv (vpkd) ?_
        refine dz ?_
        refine RL.gh (Gh.keep [2, 3, 4, 5, 7, 71] rfl) ?_
        refine .nil ?_
        cases hz
        exact jr () trivial
      replace hz := ite_f hc hz
      have hb0 : x9 = false := (bf hc)
      refine dv (VOK.lit (vmvd) hb0) ?_
      refine dgf ?_
      refine dgf ?_
      refine dgf ?_
      refine dgf ?_
      refine dv (vpkd) ?_
      refine dz ?_
      refine RL.gh (Gh.keep [2, 3, 4, 5, 7, 71] rfl) ?_
      refine .nil ?_
      cases hz
      exact jr () trivial
    rintro _ _
    by_cases hc : z8 = true
    · replace h := ite_t hc h
      refine cnt hc ?_
      refine .seq ?_
      refine .region ?_
      refine vk (vmvd) ?_
      obtain ⟨x13, hx13, h⟩ := bnd h
      refine vk ((vcl0 (ref2One_ok hx13) Tryz.call41).deep) ?_
      obtain ⟨x14, hx14, h⟩ := bnd h
      refine vk ((vcl0 (ref2One_ok hx14) Tryz.call41).deep) ?_
      refine vk (vbd gP_R gI_R gZ_R) ?_
      refine stn ?_ gS_R (by decide)
      refine asd ?_
      refine rn ?_
      refine .gh (Gh.keep [2, 3, 4, 5, 7] rfl) ?_
      refine .ret ?_
      cases h
      exact ⟨_, _, ⟨.inr rfl, gA_R, gS_R, (by decide : (0 : Nat) < 3)⟩, rfl, rfl⟩
    replace h := ite_f hc h
    refine cnf (bf hc) ?_
    refine .skip ?_
    show AW _ _ _ _ _ _
    refine .seq ?_
    refine .region ?_
    refine vk (vfa gF_R_1) ?_
    refine vk (vldp ga_L) ?_
    obtain ⟨x15, hx15, h⟩ := bnd h
    refine vk (VOK.tupd (vs := [.i .i64 x15.1, .b x15.2]) (vcl0 (r1Small_ok hx15) Tryz.call42)) ?_
    refine vk (vmvd) ?_
    refine vk (vex) ?_
    refine vk (vex) ?_
    refine asd ?_
    refine asd ?_
    refine rn ?_
    refine .gh (Gh.keep [2, 3, 4, 5, 7, 8, 9] rfl) ?_
    refine .seq ?_
    refine .seq ?_
    refine AW.mr (σ := Unit) (fun _ => True) (fun _ => [(2, .d (.ptr [.b a0.1, .sl (L a0.2.1), .sl (L a0.2.2)])), (3, .d (.ptr [.b a1.1, .sl (L a1.2.1), .sl (L a1.2.2)])), (4, .nb [.b false, .sl (L []), .sl (L [])]), (5, .d (.i .i64 0)), (7, .d (.b (a0.1 && (decide ((bits .and .u32 ((x7 : Nat) : Int) 1) = 1))))), (8, .d (.i .i64 x15.1)), (87, .d (.b ((!x15.2) || (decide (1024 < x15.1)))))]) (fun _ => []) ?_ ?_
    · skip
      refine .region ?_
      refine vk (vmvd) ?_
      refine vk (vnt) ?_
      by_cases hc : x15.2 = true
      · have hb0 : (!x15.2) = false := (ntf hc)
        refine vk (VOK.lit (vmvd) hb0) ?_
        refine vk (vmvd) ?_
        refine vk (vbi) ?_
        refine vk (vpkd) ?_
        refine RL.gh (Gh.keep [2, 3, 4, 5, 7, 8, 87] rfl) ?_
        refine .nil ?_
        exact jr () trivial (by simp only [hb0]; rfl)
      have hb0 : (!x15.2) = true := (ntt (bf hc))
      refine vk (VOK.lit (vmvd) hb0) ?_
      refine gf ?_
      refine gf ?_
      refine vk (vpkd) ?_
      refine RL.gh (Gh.keep [2, 3, 4, 5, 7, 8, 87] rfl) ?_
      refine .nil ?_
      exact jr () trivial (by simp only [hb0]; rfl)
    rintro _ _
    by_cases hc : ((!x15.2) || (decide (1024 < x15.1))) = true
    · replace h := ite_t hc h
      refine cnt hc ?_
      refine .seq ?_
      refine .region ?_
      refine vk (vbd gP_R gI_R gZ_R) ?_
      refine stn ?_ gS_R (by decide)
      refine asd ?_
      refine rn ?_
      refine .gh (Gh.keep [2, 3, 4, 5, 7, 8] rfl) ?_
      refine .ret ?_
      cases h
      exact ⟨_, _, ⟨.inr rfl, gA_R, gS_R, (by decide : (0 : Nat) < 3)⟩, rfl, rfl⟩
    replace h := ite_f hc h
    refine cnf (bf hc) ?_
    refine .skip ?_
    show AW _ _ _ _ _ _
    refine .seq ?_
    refine .region ?_
    refine vk (vfa gF_R_1) ?_
    refine vk (vldp ga_L) ?_
    refine vk (vmvd) ?_
    obtain ⟨x16, hx16, h⟩ := bnd h
    refine vk (VOK.tupd (vs := [.sl (L x16.1), .b x16.2]) (vcl0 (r1Power_ok hx16) Tryz.call43)) ?_
    refine vk (vmvd) ?_
    refine vk (vex) ?_
    refine vk (vex) ?_
    refine asd ?_
    refine asd ?_
    refine rn ?_
    refine .gh (Gh.keep [2, 3, 4, 5, 7, 8, 10, 11] rfl) ?_
    refine .seq ?_
    refine .region ?_
    refine vk (vfa gF_R_2) ?_
    refine vk (vldp ga_L) ?_
    refine vk (vmvd) ?_
    obtain ⟨x17, hx17, h⟩ := bnd h
    refine vk (VOK.tupd (vs := [.sl (L x17.1), .b x17.2]) (vcl0 (r1Power_ok hx17) Tryz.call43)) ?_
    refine vk (vmvd) ?_
    refine vk (vex) ?_
    refine vk (vex) ?_
    refine asd ?_
    refine asd ?_
    refine rn ?_
    refine .gh (Gh.keep [3, 4, 5, 7, 10, 11, 12, 13] rfl) ?_
    refine .seq ?_
    refine .seq ?_
    refine AW.mr (σ := Unit) (fun _ => True) (fun _ => [(3, .d (.ptr [.b a1.1, .sl (L a1.2.1), .sl (L a1.2.2)])), (4, .nb [.b false, .sl (L []), .sl (L [])]), (5, .d (.i .i64 0)), (7, .d (.b (a0.1 && (decide ((bits .and .u32 ((x7 : Nat) : Int) 1) = 1))))), (10, .d (.sl (L x16.1))), (12, .d (.sl (L x17.1))), (108, .d (.b ((!x16.2) || (!x17.2))))]) (fun _ => []) ?_ ?_
    · skip
      refine .region ?_
      refine vk (vmvd) ?_
      refine vk (vnt) ?_
      by_cases hc : x16.2 = true
      · have hb0 : (!x16.2) = false := (ntf hc)
        refine vk (VOK.lit (vmvd) hb0) ?_
        refine vk (vmvd) ?_
        refine vk (vnt) ?_
        refine vk (vpkd) ?_
        refine RL.gh (Gh.keep [3, 4, 5, 7, 10, 12, 108] rfl) ?_
        refine .nil ?_
        exact jr () trivial (by simp only [hb0]; rfl)
      have hb0 : (!x16.2) = true := (ntt (bf hc))
      refine vk (VOK.lit (vmvd) hb0) ?_
      refine gf ?_
      refine gf ?_
      refine vk (vpkd) ?_
      refine RL.gh (Gh.keep [3, 4, 5, 7, 10, 12, 108] rfl) ?_
      refine .nil ?_
      exact jr () trivial (by simp only [hb0]; rfl)
    rintro _ _
    by_cases hc : ((!x16.2) || (!x17.2)) = true
    · replace h := ite_t hc h
      refine cnt hc ?_
      refine .seq ?_
      refine .region ?_
      refine vk (vbd gP_R gI_R gZ_R) ?_
      refine stn ?_ gS_R (by decide)
      refine asd ?_
      refine rn ?_
      refine .gh (Gh.keep [3, 4, 5, 7, 10, 12] rfl) ?_
      refine .ret ?_
      cases h
      exact ⟨_, _, ⟨.inr rfl, gA_R, gS_R, (by decide : (0 : Nat) < 3)⟩, rfl, rfl⟩
    replace h := ite_f hc h
    refine cnf (bf hc) ?_
    refine .skip ?_
    show AW _ _ _ _ _ _
    refine .seq ?_
    refine .seq ?_
    refine .region ?_
    refine vk (vfa gF_R_0) ?_
    refine vk (vldp ga_bool) ?_
    refine rn ?_
    refine .gh (Gh.keep [4, 5, 7, 10, 12, 111] rfl) ?_
    by_cases hc : a1.1 = true
    · replace h := ite_t hc h
      refine cnt hc ?_
      refine .region ?_
      refine vk (vmvd) ?_
      refine vk (vmvd) ?_
      refine asd ?_
      refine asd ?_
      refine rn ?_
      refine .gh (Gh.keep [4, 5, 7, 10, 12] rfl) ?_
      refine .seq ?_
      refine .region ?_
      refine vk (vmvd) ?_
      refine vk (vmvd) ?_
      refine vk (vmvd) ?_
      refine vk (vbd gP_R gI_R gZ_R) ?_
      refine stn ?_ gS_R (by decide)
      refine asd ?_
      refine rn ?_
      refine .gh (Gh.keep [4, 5] rfl) ?_
      refine .ret ?_
      cases h
      exact ⟨_, _, ⟨.inr rfl, gA_R, gS_R, (by decide : (0 : Nat) < 3)⟩, rfl, rfl⟩
    replace h := ite_f hc h
    refine cnf (bf hc) ?_
    refine .skip ?_
    show AW _ _ _ _ _ _
    refine .seq ?_
    refine .region ?_
    refine vk (vmvd) ?_
    refine vk (vmvd) ?_
    refine vk (vmvd) ?_
    refine vk (vbd gP_R gI_R gZ_R) ?_
    refine stn ?_ gS_R (by decide)
    refine asd ?_
    refine rn ?_
    refine .gh (Gh.keep [4, 5] rfl) ?_
    refine .ret ?_
    cases h
    exact ⟨_, _, ⟨.inr rfl, gA_R, gS_R, (by decide : (0 : Nat) < 3)⟩, rfl, rfl⟩
  replace h := ite_f hc h
  refine cnt (ntt (bf hc)) ?_
  refine .seq ?_
  refine .region ?_
  refine vk (vbd gP_R gI_R gZ_R) ?_
  refine stn ?_ gS_R (by decide)
  refine asd ?_
  refine rn ?_
  refine .gh (Gh.keep [2, 3, 4, 5] rfl) ?_
  refine .ret ?_
  cases h
  exact ⟨_, _, ⟨.inr rfl, gA_R, gS_R, (by decide : (0 : Nat) < 3)⟩, rfl, rfl⟩

def ref02_whole (a0 : RT) : Option (Bool) := ((ref02_IsInt a0).bind fun x1 => (some ((x1 && (!a0.1)))))
theorem ref02_whole_ok {a0 : RT} {r : Bool} (h : ref02_whole a0 = some r) :
    Fn Tryz.prog 48 [.ag [.b a0.1, .sl (L a0.2.1), .sl (L a0.2.2)]] (.d (.b r)) := by
  unfold ref02_whole at h
  refine Fn.of (rs := [.tmp 2]) (nt := 10) Tryz.func48 rfl rfl rfl (by simp) rfl ?_
  refine .seq ?_
  refine .region ?_
  refine vk (vbx) ?_
  refine asd ?_
  refine rn ?_
  refine .gh (Gh.keep [1, 2] rfl) ?_
  refine .seq ?_
  obtain ⟨x1, hx1, h⟩ := bnd h
  refine AW.mr (σ := Unit) (fun _ => True) (fun _ => [(2, .d (.b (x1 && (!a0.1))))]) (fun _ => []) ?_ ?_
  · skip
    refine .region ?_
    refine vk (vlda gA_R gS_R) ?_
    refine vk (vcl0 (ref02_IsInt_ok hx1) Tryz.call37) ?_
    by_cases hc : x1 = true
    · have hb0 : x1 = true := hc
      refine vk (VOK.lit (vmvd) hb0) ?_
      refine vk (vfa gF_R_0) ?_
      refine vk (vldp ga_bool) ?_
      refine vk (vnt) ?_
      refine vk (vpkd) ?_
      refine asd ?_
      refine RL.gh (Gh.keep [2] rfl) ?_
      refine .nil ?_
      exact jr () trivial (by simp only [hb0]; rfl)
    have hb0 : x1 = false := (bf hc)
    refine vk (VOK.lit (vmvd) hb0) ?_
    refine gf ?_
    refine gf ?_
    refine gf ?_
    refine vk (vpkd) ?_
    refine asd ?_
    refine RL.gh (Gh.keep [2] rfl) ?_
    refine .nil ?_
    exact jr () trivial (by simp only [hb0]; rfl)
  rintro _ _
  refine .ret ?_
  cases h
  exact ⟨rfl, rfl⟩

def ref02_Factorial_l0 (x3 : Int × Bool) : Nat → (List Nat) → Int → Option (RT × Int)
  | 0, _, _ => none
  | k + 1, s5, s6 => (if s6 ≤ x3.1 then ((r1Of (IntKind.wrap .u64 s6)).bind fun x7 => ((r1Mul s5 x7).bind fun x8 => (ref02_Factorial_l0 x3 k x8 (w64 (s6 + 1))))) else (ref2One.bind fun x9 => ((ref2Make false s5 x9).bind fun x10 => (some (x10.1, x10.2)))))
def ref02_Factorial (a0 : RT) : Option (RT × Int) := ((ref2Right a0).bind fun x1 => (if x1 = true then ((ref02_whole a0).bind fun x2 => (if x2 = true then ((r1Small a0.2.1).bind fun x3 => (if ((!x3.2) || (decide (1000 < x3.1))) = true then (some ((false, [], []), 8)) else (ref2One.bind fun x4 => (ref02_Factorial_l0 x3 FUEL x4 2)))) else (some ((false, [], []), 3)))) else (some ((false, [], []), 22))))
theorem ref02_Factorial_ok {a0 : RT} {r : RT × Int} (h : ref02_Factorial a0 = some r) :
    Fn Tryz.prog 11 [.ag [.b a0.1, .sl (L a0.2.1), .sl (L a0.2.2)]] (.tup [.d (.ag [.b r.1.1, .sl (L r.1.2.1), .sl (L r.1.2.2)]), .d (.i .i64 r.2)]) := by
  unfold ref02_Factorial at h
  refine Fn.ofC (rs := [.cell 2 24, .tmp 3]) (nt := 45) Tryz.func11 rfl rfl rfl (by simp) rfl ?_
  refine .seq ?_
  refine .region ?_
  refine vk (vbx) ?_
  refine vk (van (zero_of gI_R) gZ_R) ?_
  refine asd ?_
  refine rn ?_
  refine .gh (Gh.keep [1, 2, 3] rfl) ?_
  refine .seq ?_
  refine .seq ?_
  refine .region ?_
  refine vk (vlda gA_R gS_R) ?_
  obtain ⟨x1, hx1, h⟩ := bnd h
  refine vk (vcl0 (ref2Right_ok hx1) Tryz.call20) ?_
  refine vk (vnt) ?_
  refine rn ?_
  refine .gh (Gh.keep [1, 2, 3, 10] rfl) ?_
  by_cases hc : x1 = true
  · replace h := ite_t hc h
    refine cnf (ntf hc) ?_
    refine .skip ?_
    show AW _ _ _ _ _ _
    refine .seq ?_
    refine .seq ?_
    refine .region ?_
    refine vk (vlda gA_R gS_R) ?_
    obtain ⟨x2, hx2, h⟩ := bnd h
    refine vk (vcl0 (ref02_whole_ok hx2) Tryz.call48) ?_
    refine vk (vnt) ?_
    refine rn ?_
    refine .gh (Gh.keep [1, 2, 3, 14] rfl) ?_
    by_cases hc : x2 = true
    · replace h := ite_t hc h
      refine cnf (ntf hc) ?_
      refine .skip ?_
      show AW _ _ _ _ _ _
      refine .seq ?_
      refine .region ?_
      refine vk (vfa gF_R_1) ?_
      refine vk (vldp ga_L) ?_
      obtain ⟨x3, hx3, h⟩ := bnd h
      refine vk (VOK.tupd (vs := [.i .i64 x3.1, .b x3.2]) (vcl0 (r1Small_ok hx3) Tryz.call42)) ?_
      refine vk (vmvd) ?_
      refine vk (vex) ?_
      refine vk (vex) ?_
      refine asd ?_
      refine asd ?_
      refine rn ?_
      refine .gh (Gh.keep [2, 3, 4, 5] rfl) ?_
      refine .seq ?_
      refine .seq ?_
      refine AW.mr (σ := Unit) (fun _ => True) (fun _ => [(2, .nb [.b false, .sl (L []), .sl (L [])]), (3, .d (.i .i64 0)), (4, .d (.i .i64 x3.1)), (27, .d (.b ((!x3.2) || (decide (1000 < x3.1)))))]) (fun _ => []) ?_ ?_
      · skip
        refine .region ?_
        refine vk (vmvd) ?_
        refine vk (vnt) ?_
        by_cases hc : x3.2 = true
        · have hb0 : (!x3.2) = false := (ntf hc)
          refine vk (VOK.lit (vmvd) hb0) ?_
          refine vk (vmvd) ?_
          refine vk (vbi) ?_
          refine vk (vpkd) ?_
          refine RL.gh (Gh.keep [2, 3, 4, 27] rfl) ?_
          refine .nil ?_
          exact jr () trivial (by simp only [hb0]; rfl)
        have hb0 : (!x3.2) = true := (ntt (bf hc))
        refine vk (VOK.lit (vmvd) hb0) ?_
        refine gf ?_
        refine gf ?_
        refine vk (vpkd) ?_
        refine RL.gh (Gh.keep [2, 3, 4, 27] rfl) ?_
        refine .nil ?_
        exact jr () trivial (by simp only [hb0]; rfl)
      rintro _ _
      by_cases hc : ((!x3.2) || (decide (1000 < x3.1))) = true
      · replace h := ite_t hc h
        refine cnt hc ?_
        refine .seq ?_
        refine .region ?_
        refine vk (vbd gP_R gI_R gZ_R) ?_
        refine stn ?_ gS_R (by decide)
        refine asd ?_
        refine rn ?_
        refine .gh (Gh.keep [2, 3, 4] rfl) ?_
        refine .ret ?_
        cases h
        exact ⟨_, _, ⟨.inr rfl, gA_R, gS_R, (by decide : (0 : Nat) < 3)⟩, rfl, rfl⟩
      replace h := ite_f hc h
      refine cnf (bf hc) ?_
      refine .skip ?_
      show AW _ _ _ _ _ _
      refine .seq ?_
      refine .region ?_
      obtain ⟨x4, hx4, h⟩ := bnd h
      refine vk ((vcl0 (ref2One_ok hx4) Tryz.call41).deep) ?_
      refine asd ?_
      refine rn ?_
      refine .gh (Gh.keep [2, 3, 4, 6] rfl) ?_
      refine .seq ?_
      refine .seq ?_
      refine .region ?_
      refine asd ?_
      refine rn ?_
      refine .gh (Gh.keep [2, 3, 4, 6, 7] rfl) ?_
      refine .block ?_
      refine .loop (.gh (Gh.keep [2, 3, 4, 6, 7] rfl) ?_)
      refine AL.ind (σ := Nat × (List Nat) × Int) (m := fun p => p.1) (e := fun p => [(2, .nb [.b false, .sl (L []), .sl (L [])]), (3, .d (.i .i64 0)), (4, .d (.i .i64 x3.1)), (6, .d (.sl (L p.2.1))), (7, .d (.i .i64 p.2.2))]) (h := fun p => []) (I := fun p => ref02_Factorial_l0 x3 p.1 p.2.1 p.2.2 = some r) ?_ (FUEL, x4, 2) h
      rintro ⟨k, s5, s6⟩ h ih
      dsimp only at h ih ⊢
      rcases k with _ | k
      · rw [ref02_Factorial_l0] at h; cases h
      rw [ref02_Factorial_l0] at h
      refine .seq ?_
      refine .seq ?_
      refine .region ?_
      refine vk (vmvd) ?_
      refine vk (vmvd) ?_
      refine vk (vbi) ?_
      refine rn ?_
      refine .gh (Gh.keep [2, 3, 4, 6, 7, 32] rfl) ?_
      by_cases hc : s6 ≤ x3.1
      · replace h := ite_t hc h
        refine cnt (decide_eq_true hc) ?_
        refine .skip ?_
        show AW _ _ _ _ _ _
        refine .seq ?_
        refine .block ?_
        refine .region ?_
        refine vk (vmvd) ?_
        refine vk (vmvd) ?_
        refine vk (vcv gk_int gk_uint64) ?_
        obtain ⟨x7, hx7, h⟩ := bnd h
        refine vk ((vcl0 (r1Of_ok hx7) Tryz.call50).deep) ?_
        obtain ⟨x8, hx8, h⟩ := bnd h
        refine vk ((vcl0 (r1Mul_ok hx8) Tryz.call49).deep) ?_
        refine asd ?_
        refine .nil ?_
        show AW _ _ _ _ _ _
        refine .gh (Gh.keep [2, 3, 4, 6, 7] rfl) ?_
        refine .region ?_
        refine vk (vmvd) ?_
        refine vk (vbi) ?_
        refine asd ?_
        refine .nil ?_
        refine AL.gh (Gh.keep [2, 3, 4, 6, 7] rfl) ?_
        exact ih (k, x8, (w64 (s6 + 1))) h (Nat.lt_succ_self _)
      replace h := ite_f hc h
      refine cnf (decide_eq_false hc) ?_
      refine .exit ?_
      show AW _ _ _ _ _ _
      refine .seq ?_
      refine .region ?_
      refine vk (vmvd) ?_
      obtain ⟨x9, hx9, h⟩ := bnd h
      refine vk ((vcl0 (ref2One_ok hx9) Tryz.call41).deep) ?_
      obtain ⟨x10, hx10, h⟩ := bnd h
      refine vk (VOK.tupd (vs := [.ag [.b x10.1.1, .sl (L x10.1.2.1), .sl (L x10.1.2.2)], .i .i64 x10.2]) (vcl0 (ref2Make_ok hx10) Tryz.call51)) ?_
      refine vk (vex) ?_
      refine vk (vex) ?_
      refine stn ?_ gS_R (by decide)
      refine asd ?_
      refine rn ?_
      refine .gh (Gh.keep [2, 3] rfl) ?_
      refine .ret ?_
      cases h
      exact ⟨_, _, ⟨.inr rfl, gA_R, gS_R, (by decide : (0 : Nat) < 3)⟩, rfl, rfl⟩
    replace h := ite_f hc h
    refine cnt (ntt (bf hc)) ?_
    refine .seq ?_
    refine .region ?_
    refine vk (vbd gP_R gI_R gZ_R) ?_
    refine stn ?_ gS_R (by decide)
    refine asd ?_
    refine rn ?_
    refine .gh (Gh.keep [1, 2, 3] rfl) ?_
    refine .ret ?_
    cases h
    exact ⟨_, _, ⟨.inr rfl, gA_R, gS_R, (by decide : (0 : Nat) < 3)⟩, rfl, rfl⟩
  replace h := ite_f hc h
  refine cnt (ntt (bf hc)) ?_
  refine .seq ?_
  refine .region ?_
  refine vk (vbd gP_R gI_R gZ_R) ?_
  refine stn ?_ gS_R (by decide)
  refine asd ?_
  refine rn ?_
  refine .gh (Gh.keep [1, 2, 3] rfl) ?_
  refine .ret ?_
  cases h
  exact ⟨_, _, ⟨.inr rfl, gA_R, gS_R, (by decide : (0 : Nat) < 3)⟩, rfl, rfl⟩

def ref02_Binomial_l1 (x7 : (List Nat) × Bool) (K0 : RT → Int → (List Nat) → Option (RT × Int)) : Nat → RT → Int → (List Nat) → (List Nat) → (List Nat) → Option (RT × Int)
  | 0, _, _, _, _, _ => none
  | k + 1, s13, s14, s15, s16, s17 => ((r1Compare s16 x7.1).bind fun x18 => (if x18 < 0 then (ref2One.bind fun x19 => ((r1Add s16 x19).bind fun x20 => ((r1Mul s15 s17).bind fun x21 => ((r1DivMod x21 x20).bind fun x22 => (ref2One.bind fun x23 => ((r1Minus s17 x23).bind fun x24 => (if 32 < ((List.length x22.1 : Nat) : Int) then (some ((false, [], []), 8)) else (ref02_Binomial_l1 x7 K0 k s13 s14 x22.1 x20 x24.1)))))))) else (K0 s13 s14 s15)))
def ref02_Binomial_l3 (a0 : RT) (K2 : RT → Int → (List Nat) → Option (RT × Int)) : Nat → RT → Int → (List Nat) → (List Nat) → (List Nat) → Option (RT × Int)
  | 0, _, _, _, _, _ => none
  | k + 1, s31, s32, s33, s34, s35 => ((r1Compare s34 a0.2.1).bind fun x36 => (if x36 < 0 then (ref2One.bind fun x37 => ((r1Add s34 x37).bind fun x38 => ((r1Mul s33 s35).bind fun x39 => ((r1DivMod x39 x38).bind fun x40 => (ref2One.bind fun x41 => ((r1Minus s35 x41).bind fun x42 => (if 32 < ((List.length x40.1 : Nat) : Int) then (some ((false, [], []), 8)) else (ref02_Binomial_l3 a0 K2 k s31 s32 x40.1 x38 x42.1)))))))) else (K2 s31 s32 s33)))
def ref02_Binomial (a0 : RT) (a1 : RT) : Option (RT × Int) := ((ref2Right a0).bind fun x1 => (Option.bind ((if x1 = true then ((ref2Right a1).bind fun x3 => (some (!x3))) else (some true)) : Option (Bool)) fun (z1 : Bool) => (if z1 = true then (some ((false, [], []), 22)) else ((ref02_whole a0).bind fun x4 => (Option.bind ((if x4 = true then ((ref02_whole a1).bind fun x6 => (some (!x6))) else (some true)) : Option (Bool)) fun (z4 : Bool) => (if z4 = true then (some ((false, [], []), 3)) else ((r1Minus a1.2.1 a0.2.1).bind fun x7 => (if x7.2 = true then ((r1Compare x7.1 a0.2.1).bind fun x8 => (if x8 < 0 then (ref2One.bind fun x9 => (jn (fun (z10 : RT) (z11 : Int) (z12 : (List Nat)) => (ref2One.bind fun x25 => ((ref2Make false z12 x25).bind fun x26 => (some (x26.1, x26.2))))) fun K0 => (ref02_Binomial_l1 x7 K0 FUEL (false, [], []) 0 x9 [] a1.2.1))) else (ref2One.bind fun x27 => (jn (fun (z28 : RT) (z29 : Int) (z30 : (List Nat)) => (ref2One.bind fun x43 => ((ref2Make false z30 x43).bind fun x44 => (some (x44.1, x44.2))))) fun K2 => (ref02_Binomial_l3 a0 K2 FUEL (false, [], []) 0 x27 [] a1.2.1))))) else (ref2Zero.bind fun x45 => (some (x45, 0)))))))))))
set_option maxHeartbeats 4000000 in
theorem ref02_Binomial_ok {a0 : RT} {a1 : RT} {r : RT × Int} (h : ref02_Binomial a0 a1 = some r) :
    Fn Tryz.prog 13 [.ag [.b a0.1, .sl (L a0.2.1), .sl (L a0.2.2)], .ag [.b a1.1, .sl (L a1.2.1), .sl (L a1.2.2)]] (.tup [.d (.ag [.b r.1.1, .sl (L r.1.2.1), .sl (L r.1.2.2)]), .d (.i .i64 r.2)]) := by
  unfold ref02_Binomial at h
  refine Fn.ofC (rs := [.cell 4 24, .tmp 5]) (nt := 82) Tryz.func13 rfl rfl rfl (by simp) rfl ?_
  refine .seq ?_
  refine .region ?_
  refine vk (vbx) ?_
  refine vk (vbx) ?_
  refine vk (van (zero_of gI_R) gZ_R) ?_
  refine asd ?_
  refine rn ?_
  refine .gh (Gh.keep [2, 3, 4, 5] rfl) ?_
  refine .seq ?_
  refine .seq ?_
  obtain ⟨x1, hx1, h⟩ := bnd h
  obtain ⟨z1, hz, h⟩ := bnd h
  refine AW.mr (σ := Unit) (fun _ => True) (fun _ => [(2, .d (.ptr [.b a0.1, .sl (L a0.2.1), .sl (L a0.2.2)])), (3, .d (.ptr [.b a1.1, .sl (L a1.2.1), .sl (L a1.2.2)])), (4, .nb [.b false, .sl (L []), .sl (L [])]), (5, .d (.i .i64 0)), (19, .d (.b z1))]) (fun _ => []) ?_ ?_
  · skip
    refine .region ?_
    refine vk (vlda gA_R gS_R) ?_
    refine vk (vcl0 (ref2Right_ok hx1) Tryz.call20) ?_
    refine vk (vnt) ?_
    by_cases hc : x1 = true
    · replace hz := ite_t hc hz
      have hb0 : (!x1) = false := (ntf hc)
      refine vk (VOK.lit (vmvd) hb0) ?_
      refine vk (vlda gA_R gS_R) ?_
      obtain ⟨x3, hx3, hz⟩ := bnd hz
      refine vk (vcl0 (ref2Right_ok hx3) Tryz.call20) ?_
      refine vk (vnt) ?_
      refine vk (vpkd) ?_
      refine RL.gh (Gh.keep [2, 3, 4, 5, 19] rfl) ?_
      refine .nil ?_
      cases hz
      exact jr () trivial
    replace hz := ite_f hc hz
    have hb0 : (!x1) = true := (ntt (bf hc))
    refine vk (VOK.lit (vmvd) hb0) ?_
    refine gf ?_
    refine gf ?_
    refine gf ?_
    refine vk (vpkd) ?_
    refine RL.gh (Gh.keep [2, 3, 4, 5, 19] rfl) ?_
    refine .nil ?_
    cases hz
    exact jr () trivial
  rintro _ _
  by_cases hc : z1 = true
  · replace h := ite_t hc h
    refine cnt hc ?_
    refine .seq ?_
    refine .region ?_
    refine vk (vbd gP_R gI_R gZ_R) ?_
    refine stn ?_ gS_R (by decide)
    refine asd ?_
    refine rn ?_
    refine .gh (Gh.keep [2, 3, 4, 5] rfl) ?_
    refine .ret ?_
    cases h
    exact ⟨_, _, ⟨.inr rfl, gA_R, gS_R, (by decide : (0 : Nat) < 3)⟩, rfl, rfl⟩
  replace h := ite_f hc h
  refine cnf (bf hc) ?_
  refine .skip ?_
  show AW _ _ _ _ _ _
  refine .seq ?_
  refine .seq ?_
  obtain ⟨x4, hx4, h⟩ := bnd h
  obtain ⟨z4, hz, h⟩ := bnd h
  refine AW.mr (σ := Unit) (fun _ => True) (fun _ => [(2, .d (.ptr [.b a0.1, .sl (L a0.2.1), .sl (L a0.2.2)])), (3, .d (.ptr [.b a1.1, .sl (L a1.2.1), .sl (L a1.2.2)])), (4, .nb [.b false, .sl (L []), .sl (L [])]), (5, .d (.i .i64 0)), (28, .d (.b z4))]) (fun _ => []) ?_ ?_
  · skip
    refine .region ?_
    refine vk (vlda gA_R gS_R) ?_
    refine vk (vcl0 (ref02_whole_ok hx4) Tryz.call48) ?_
    refine vk (vnt) ?_
    by_cases hc : x4 = true
    · replace hz := ite_t hc hz
      have hb0 : (!x4) = false := (ntf hc)
      refine vk (VOK.lit (vmvd) hb0) ?_
      refine vk (vlda gA_R gS_R) ?_
      obtain ⟨x6, hx6, hz⟩ := bnd hz
      refine vk (vcl0 (ref02_whole_ok hx6) Tryz.call48) ?_
      refine vk (vnt) ?_
      refine vk (vpkd) ?_
      refine RL.gh (Gh.keep [2, 3, 4, 5, 28] rfl) ?_
      refine .nil ?_
      cases hz
      exact jr () trivial
    replace hz := ite_f hc hz
    have hb0 : (!x4) = true := (ntt (bf hc))
    refine vk (VOK.lit (vmvd) hb0) ?_
    refine gf ?_
    refine gf ?_
    refine gf ?_
    refine vk (vpkd) ?_
    refine RL.gh (Gh.keep [2, 3, 4, 5, 28] rfl) ?_
    refine .nil ?_
    cases hz
    exact jr () trivial
  rintro _ _
  by_cases hc : z4 = true
  · replace h := ite_t hc h
    refine cnt hc ?_
    refine .seq ?_
    refine .region ?_
    refine vk (vbd gP_R gI_R gZ_R) ?_
    refine stn ?_ gS_R (by decide)
    refine asd ?_
    refine rn ?_
    refine .gh (Gh.keep [2, 3, 4, 5] rfl) ?_
    refine .ret ?_
    cases h
    exact ⟨_, _, ⟨.inr rfl, gA_R, gS_R, (by decide : (0 : Nat) < 3)⟩, rfl, rfl⟩
  replace h := ite_f hc h
  refine cnf (bf hc) ?_
  refine .skip ?_
  show AW _ _ _ _ _ _
  refine .seq ?_
  refine .region ?_
  refine vk (vfa gF_R_1) ?_
  refine vk (vldp ga_L) ?_
  refine vk (vfa gF_R_1) ?_
  refine vk (vldp ga_L) ?_
  obtain ⟨x7, hx7, h⟩ := bnd h
  refine vk (VOK.tupd (vs := [.sl (L x7.1), .b x7.2]) (vcl0 (r1Minus_ok hx7) Tryz.call54)) ?_
  refine vk (vmvd) ?_
  refine vk (vex) ?_
  refine vk (vex) ?_
  refine asd ?_
  refine asd ?_
  refine rn ?_
  refine .gh (Gh.keep [2, 3, 4, 5, 6, 7] rfl) ?_
  refine .seq ?_
  refine .seq ?_
  refine .region ?_
  refine vk (vmvd) ?_
  refine vk (vnt) ?_
  refine rn ?_
  refine .gh (Gh.keep [2, 3, 4, 5, 6, 39] rfl) ?_
  by_cases hc : x7.2 = true
  · replace h := ite_t hc h
    refine cnf (ntf hc) ?_
    refine .skip ?_
    show AW _ _ _ _ _ _
    refine .seq ?_
    refine .region ?_
    refine vk (vfa gF_R_1) ?_
    refine vk (vldp ga_L) ?_
    refine asd ?_
    refine rn ?_
    refine .gh (Gh.keep [3, 4, 5, 6, 8] rfl) ?_
    refine .seq ?_
    refine .seq ?_
    refine .region ?_
    refine vk (vmvd) ?_
    refine vk (vmvd) ?_
    obtain ⟨x8, hx8, h⟩ := bnd h
    refine vk (vcl0 (r1Compare_ok hx8) Tryz.call55) ?_
    refine vk (vbi) ?_
    refine rn ?_
    refine .gh (Gh.keep [3, 4, 5, 6, 8, 46] rfl) ?_
    by_cases hc : x8 < 0
    · replace h := ite_t hc h
      refine cnt (decide_eq_true hc) ?_
      refine .region ?_
      refine vk (vmvd) ?_
      refine asd ?_
      refine rn ?_
      refine .gh (Gh.keep [3, 4, 5, 8] rfl) ?_
      refine .seq ?_
      refine .region ?_
      obtain ⟨x9, hx9, h⟩ := bnd h
      refine vk ((vcl0 (ref2One_ok hx9) Tryz.call41).deep) ?_
      refine asd ?_
      refine asn ?_
      refine rn ?_
      refine .gh (Gh.keep [3, 4, 5, 8, 9, 10] rfl) ?_
      refine .seq ?_
      refine .region ?_
      refine vk (vfa gF_R_1) ?_
      refine vk (vldp ga_L) ?_
      refine asd ?_
      refine rn ?_
      refine .gh (Gh.keep [4, 5, 8, 9, 10, 11] rfl) ?_
      obtain ⟨K0, hK0, h⟩ := jn_out h
      refine AW.mj (σ := RT × Int × (List Nat)) (fun p => K0 p.1 p.2.1 p.2.2 = some r) (fun p => [(4, .nb [.b p.1.1, .sl (L p.1.2.1), .sl (L p.1.2.2)]), (5, .d (.i .i64 p.2.1)), (9, .d (.sl (L p.2.2)))]) (fun p => []) ?_ ?_
      · skip
        refine .block ?_
        refine .gh (Gh.nlD (t := 10) rfl) ?_
        refine .loop (.gh (Gh.keep [4, 5, 8, 9, 10, 11] rfl) ?_)
        refine AL.ind (σ := Nat × RT × Int × (List Nat) × (List Nat) × (List Nat)) (m := fun p => p.1) (e := fun p => [(4, .nb [.b p.2.1.1, .sl (L p.2.1.2.1), .sl (L p.2.1.2.2)]), (5, .d (.i .i64 p.2.2.1)), (8, .d (.sl (L x7.1))), (9, .d (.sl (L p.2.2.2.1))), (10, .d (.sl (L p.2.2.2.2.1))), (11, .d (.sl (L p.2.2.2.2.2)))]) (h := fun p => []) (I := fun p => ref02_Binomial_l1 x7 K0 p.1 p.2.1 p.2.2.1 p.2.2.2.1 p.2.2.2.2.1 p.2.2.2.2.2 = some r) ?_ (FUEL, (false, [], []), 0, x9, [], a1.2.1) h
        rintro ⟨k, s13, s14, s15, s16, s17⟩ h ih
        dsimp only at h ih ⊢
        rcases k with _ | k
        · rw [ref02_Binomial_l1] at h; cases h
        rw [ref02_Binomial_l1] at h
        refine .seq ?_
        refine .seq ?_
        refine .region ?_
        refine vk (vmvd) ?_
        refine vk (vmvd) ?_
        obtain ⟨x18, hx18, h⟩ := bnd h
        refine vk (vcl0 (r1Compare_ok hx18) Tryz.call55) ?_
        refine vk (vbi) ?_
        refine rn ?_
        refine .gh (Gh.keep [4, 5, 8, 9, 10, 11, 54] rfl) ?_
        by_cases hc : x18 < 0
        · replace h := ite_t hc h
          refine cnt (decide_eq_true hc) ?_
          refine .skip ?_
          show AW _ _ _ _ _ _
          refine .block ?_
          refine .seq ?_
          refine .region ?_
          refine vk (vmvd) ?_
          obtain ⟨x19, hx19, h⟩ := bnd h
          refine vk ((vcl0 (ref2One_ok hx19) Tryz.call41).deep) ?_
          obtain ⟨x20, hx20, h⟩ := bnd h
          refine vk ((vcl0 (r1Add_ok hx20) Tryz.call56).deep) ?_
          refine asd ?_
          refine rn ?_
          refine .gh (Gh.keep [4, 5, 8, 9, 10, 11] rfl) ?_
          refine .seq ?_
          refine .region ?_
          refine vk (vmvd) ?_
          refine vk (vmvd) ?_
          obtain ⟨x21, hx21, h⟩ := bnd h
          refine vk ((vcl0 (r1Mul_ok hx21) Tryz.call49).deep) ?_
          refine vk (vmvd) ?_
          obtain ⟨x22, hx22, h⟩ := bnd h
          refine vk (VOK.tupd (vs := [.sl (L x22.1), .sl (L x22.2.1), .b x22.2.2]) (vcl0 (r1DivMod_ok hx22) Tryz.call57)) ?_
          refine vk (vmvd) ?_
          refine vk (vex) ?_
          refine vk (vex) ?_
          refine vk (vex) ?_
          refine asd ?_
          refine rn ?_
          refine .gh (Gh.keep [4, 5, 8, 9, 10, 11] rfl) ?_
          refine .seq ?_
          refine .region ?_
          refine vk (vmvd) ?_
          obtain ⟨x23, hx23, h⟩ := bnd h
          refine vk ((vcl0 (ref2One_ok hx23) Tryz.call41).deep) ?_
          obtain ⟨x24, hx24, h⟩ := bnd h
          refine vk (VOK.tupd (vs := [.sl (L x24.1), .b x24.2]) (vcl0 (r1Minus_ok hx24) Tryz.call54)) ?_
          refine vk (vmvd) ?_
          refine vk (vex) ?_
          refine vk (vex) ?_
          refine asd ?_
          refine rn ?_
          refine .gh (Gh.keep [4, 5, 8, 9, 10, 11] rfl) ?_
          refine .seq ?_
          refine .region ?_
          refine vk (vmvd) ?_
          refine vk (vlnE (L_length _) (L_sz _) gu_L) ?_
          refine vk (vbi) ?_
          refine rn ?_
          refine .gh (Gh.keep [4, 5, 8, 9, 10, 11, 75] rfl) ?_
          by_cases hc : 32 < ((List.length x22.1 : Nat) : Int)
          · replace h := ite_t hc h
            refine cnt (decide_eq_true hc) ?_
            refine .seq ?_
            refine .region ?_
            refine vk (vbd gP_R gI_R gZ_R) ?_
            refine stn ?_ gS_R (by decide)
            refine asd ?_
            refine rn ?_
            refine .gh (Gh.keep [4, 5, 8, 9, 10, 11] rfl) ?_
            refine .ret ?_
            cases h
            exact ⟨_, _, ⟨.inr rfl, gA_R, gS_R, (by decide : (0 : Nat) < 3)⟩, rfl, rfl⟩
          replace h := ite_f hc h
          refine cnf (decide_eq_false hc) ?_
          refine .gh (Gh.keep [4, 5, 8, 9, 10, 11] rfl) ?_
          refine .skip ?_
          exact ih (k, s13, s14, x22.1, x20, x24.1) h (Nat.lt_succ_self _)
        replace h := ite_f hc h
        refine cnf (decide_eq_false hc) ?_
        refine .gh (Gh.keep [4, 5, 9] rfl) ?_
        refine .exit ?_
        exact jr (s13, s14, s15) h
      rintro ⟨z10, z11, z12⟩ h
      try dsimp only at h ⊢
      subst hK0
      refine .seq ?_
      refine .region ?_
      refine vk (vmvd) ?_
      obtain ⟨x25, hx25, h⟩ := bnd h
      refine vk ((vcl0 (ref2One_ok hx25) Tryz.call41).deep) ?_
      obtain ⟨x26, hx26, h⟩ := bnd h
      refine vk (VOK.tupd (vs := [.ag [.b x26.1.1, .sl (L x26.1.2.1), .sl (L x26.1.2.2)], .i .i64 x26.2]) (vcl0 (ref2Make_ok hx26) Tryz.call51)) ?_
      refine vk (vex) ?_
      refine vk (vex) ?_
      refine stn ?_ gS_R (by decide)
      refine asd ?_
      refine rn ?_
      refine .gh (Gh.keep [4, 5] rfl) ?_
      refine .ret ?_
      cases h
      exact ⟨_, _, ⟨.inr rfl, gA_R, gS_R, (by decide : (0 : Nat) < 3)⟩, rfl, rfl⟩
    replace h := ite_f hc h
    refine cnf (decide_eq_false hc) ?_
    refine .skip ?_
    show AW _ _ _ _ _ _
    refine .seq ?_
    refine .region ?_
    obtain ⟨x27, hx27, h⟩ := bnd h
    refine vk ((vcl0 (ref2One_ok hx27) Tryz.call41).deep) ?_
    refine asd ?_
    refine asn ?_
    refine rn ?_
    refine .gh (Gh.keep [3, 4, 5, 8, 9, 10] rfl) ?_
    refine .seq ?_
    refine .region ?_
    refine vk (vfa gF_R_1) ?_
    refine vk (vldp ga_L) ?_
    refine asd ?_
    refine rn ?_
    refine .gh (Gh.keep [4, 5, 8, 9, 10, 11] rfl) ?_
    obtain ⟨K2, hK2, h⟩ := jn_out h
    refine AW.mj (σ := RT × Int × (List Nat)) (fun p => K2 p.1 p.2.1 p.2.2 = some r) (fun p => [(4, .nb [.b p.1.1, .sl (L p.1.2.1), .sl (L p.1.2.2)]), (5, .d (.i .i64 p.2.1)), (9, .d (.sl (L p.2.2)))]) (fun p => []) ?_ ?_
    · skip
      refine .block ?_
      refine .gh (Gh.nlD (t := 10) rfl) ?_
      refine .loop (.gh (Gh.keep [4, 5, 8, 9, 10, 11] rfl) ?_)
      refine AL.ind (σ := Nat × RT × Int × (List Nat) × (List Nat) × (List Nat)) (m := fun p => p.1) (e := fun p => [(4, .nb [.b p.2.1.1, .sl (L p.2.1.2.1), .sl (L p.2.1.2.2)]), (5, .d (.i .i64 p.2.2.1)), (8, .d (.sl (L a0.2.1))), (9, .d (.sl (L p.2.2.2.1))), (10, .d (.sl (L p.2.2.2.2.1))), (11, .d (.sl (L p.2.2.2.2.2)))]) (h := fun p => []) (I := fun p => ref02_Binomial_l3 a0 K2 p.1 p.2.1 p.2.2.1 p.2.2.2.1 p.2.2.2.2.1 p.2.2.2.2.2 = some r) ?_ (FUEL, (false, [], []), 0, x27, [], a1.2.1) h
      rintro ⟨k, s31, s32, s33, s34, s35⟩ h ih
      dsimp only at h ih ⊢
      rcases k with _ | k
      · rw [ref02_Binomial_l3] at h; cases h
      rw [ref02_Binomial_l3] at h
      refine .seq ?_
      refine .seq ?_
      refine .region ?_
      refine vk (vmvd) ?_
      refine vk (vmvd) ?_
      obtain ⟨x36, hx36, h⟩ := bnd h
      refine vk (vcl0 (r1Compare_ok hx36) Tryz.call55) ?_
      refine vk (vbi) ?_
      refine rn ?_
      refine .gh (Gh.keep [4, 5, 8, 9, 10, 11, 54] rfl) ?_
      by_cases hc : x36 < 0
      · replace h := ite_t hc h
        refine cnt (decide_eq_true hc) ?_
        refine .skip ?_
        show AW _ _ _ _ _ _
        refine .block ?_
        refine .seq ?_
        refine .region ?_
        refine vk (vmvd) ?_
        obtain ⟨x37, hx37, h⟩ := bnd h
        refine vk ((vcl0 (ref2One_ok hx37) Tryz.call41).deep) ?_
        obtain ⟨x38, hx38, h⟩ := bnd h
        refine vk ((vcl0 (r1Add_ok hx38) Tryz.call56).deep) ?_
        refine asd ?_
        refine rn ?_
        refine .gh (Gh.keep [4, 5, 8, 9, 10, 11] rfl) ?_
        refine .seq ?_
        refine .region ?_
        refine vk (vmvd) ?_
        refine vk (vmvd) ?_
        obtain ⟨x39, hx39, h⟩ := bnd h
        refine vk ((vcl0 (r1Mul_ok hx39) Tryz.call49).deep) ?_
        refine vk (vmvd) ?_
        obtain ⟨x40, hx40, h⟩ := bnd h
        refine vk (VOK.tupd (vs := [.sl (L x40.1), .sl (L x40.2.1), .b x40.2.2]) (vcl0 (r1DivMod_ok hx40) Tryz.call57)) ?_
        refine vk (vmvd) ?_
        refine vk (vex) ?_
        refine vk (vex) ?_
        refine vk (vex) ?_
        refine asd ?_
        refine rn ?_
        refine .gh (Gh.keep [4, 5, 8, 9, 10, 11] rfl) ?_
        refine .seq ?_
        refine .region ?_
        refine vk (vmvd) ?_
        obtain ⟨x41, hx41, h⟩ := bnd h
        refine vk ((vcl0 (ref2One_ok hx41) Tryz.call41).deep) ?_
        obtain ⟨x42, hx42, h⟩ := bnd h
        refine vk (VOK.tupd (vs := [.sl (L x42.1), .b x42.2]) (vcl0 (r1Minus_ok hx42) Tryz.call54)) ?_
        refine vk (vmvd) ?_
        refine vk (vex) ?_
        refine vk (vex) ?_
        refine asd ?_
        refine rn ?_
        refine .gh (Gh.keep [4, 5, 8, 9, 10, 11] rfl) ?_
        refine .seq ?_
        refine .region ?_
        refine vk (vmvd) ?_
        refine vk (vlnE (L_length _) (L_sz _) gu_L) ?_
        refine vk (vbi) ?_
        refine rn ?_
        refine .gh (Gh.keep [4, 5, 8, 9, 10, 11, 75] rfl) ?_
        by_cases hc : 32 < ((List.length x40.1 : Nat) : Int)
        · replace h := ite_t hc h
          refine cnt (decide_eq_true hc) ?_
          refine .seq ?_
          refine .region ?_
          refine vk (vbd gP_R gI_R gZ_R) ?_
          refine stn ?_ gS_R (by decide)
          refine asd ?_
          refine rn ?_
          refine .gh (Gh.keep [4, 5, 8, 9, 10, 11] rfl) ?_
          refine .ret ?_
          cases h
          exact ⟨_, _, ⟨.inr rfl, gA_R, gS_R, (by decide : (0 : Nat) < 3)⟩, rfl, rfl⟩
        replace h := ite_f hc h
        refine cnf (decide_eq_false hc) ?_
        refine .gh (Gh.keep [4, 5, 8, 9, 10, 11] rfl) ?_
        refine .skip ?_
        exact ih (k, s31, s32, x40.1, x38, x42.1) h (Nat.lt_succ_self _)
      replace h := ite_f hc h
      refine cnf (decide_eq_false hc) ?_
      refine .gh (Gh.keep [4, 5, 9] rfl) ?_
      refine .exit ?_
      exact jr (s31, s32, s33) h
    rintro ⟨z28, z29, z30⟩ h
    try dsimp only at h ⊢
    subst hK2
    refine .seq ?_
    refine .region ?_
    refine vk (vmvd) ?_
    obtain ⟨x43, hx43, h⟩ := bnd h
    refine vk ((vcl0 (ref2One_ok hx43) Tryz.call41).deep) ?_
    obtain ⟨x44, hx44, h⟩ := bnd h
    refine vk (VOK.tupd (vs := [.ag [.b x44.1.1, .sl (L x44.1.2.1), .sl (L x44.1.2.2)], .i .i64 x44.2]) (vcl0 (ref2Make_ok hx44) Tryz.call51)) ?_
    refine vk (vex) ?_
    refine vk (vex) ?_
    refine stn ?_ gS_R (by decide)
    refine asd ?_
    refine rn ?_
    refine .gh (Gh.keep [4, 5] rfl) ?_
    refine .ret ?_
    cases h
    exact ⟨_, _, ⟨.inr rfl, gA_R, gS_R, (by decide : (0 : Nat) < 3)⟩, rfl, rfl⟩
  replace h := ite_f hc h
  refine cnt (ntt (bf hc)) ?_
  refine .seq ?_
  refine .region ?_
  obtain ⟨x45, hx45, h⟩ := bnd h
  refine vk (vcl0 (ref2Zero_ok hx45) Tryz.call39) ?_
  refine stn ?_ gS_R (by decide)
  refine asd ?_
  refine rn ?_
  refine .gh (Gh.keep [2, 3, 4, 5, 6] rfl) ?_
  refine .ret ?_
  cases h
  exact ⟨_, _, ⟨.inr rfl, gA_R, gS_R, (by decide : (0 : Nat) < 3)⟩, rfl, rfl⟩
end Go.FL
