/-
  Part 4 of the base of the proofs: a logic of our own over the calculus, the contracts of the functions
-/
import Derived.Test.YtcoofpnbnifbbaaRaC
set_option linter.unusedVariables false
/-
  GP: the report.
-/
namespace Go.FL
open Go Go.Proofs

def report_width_l0 (a0 : ByteArray) : Nat → Int → Nat → Option (Int)
  | 0, _, _ => none
  | k + 1, s1, s2 => (if s2 < ByteArray.size a0 then (report_width_l0 a0 k (w64 (s1 + 1)) (rnext a0 s2)) else (some (s1)))
def report_width (a0 : ByteArray) : Option (Int) := (report_width_l0 a0 FUEL 0 0)
theorem report_width_ok {a0 : ByteArray} {r : Int} (h : report_width a0 = some r) :
    Fn Try.prog 71 [.s a0] (.d (.i .i64 r)) := by
  unfold report_width at h
  refine Fn.of (rs := [.tmp 2]) (nt := 11) Try.func71 rfl rfl rfl (by simp) rfl ?_
  refine .seq ?_
  refine .region ?_
  refine asd ?_
  refine rn ?_
  refine .gh (Gh.keep [0, 2] rfl) ?_
  refine .seq ?_
  refine .region ?_
  refine asd ?_
  refine rn ?_
  refine .gh (Gh.keep [0, 2, 3] rfl) ?_
  refine .seq ?_
  refine .seq ?_
  refine .region ?_
  refine vk (vmvd) ?_
  refine vk (vrng st) ?_
  refine rn ?_
  refine .gh (Gh.keep [2, 3, 5] rfl) ?_
  refine .block ?_
  refine .loop (.gh (Gh.keep [2, 3, 5] rfl) ?_)
  refine AL.ind (σ := Nat × Int × Nat) (m := fun p => p.1) (e := fun p => [(2, .d (.i .i64 0)), (3, .d (.i .i64 p.2.1)), (5, .it a0 p.2.2)]) (h := fun p => []) (I := fun p => report_width_l0 a0 p.1 p.2.1 p.2.2 = some r) ?_ (FUEL, 0, 0) h
  rintro ⟨k, s1, s2⟩ h ih
  dsimp only at h ih ⊢
  rcases k with _ | k
  · rw [report_width_l0] at h; cases h
  rw [report_width_l0] at h
  refine .seq ?_
  refine .region ?_
  by_cases hc : s2 < ByteArray.size a0
  · replace h := ite_t hc h
    refine nxt ?_ hc
    refine vk (vex) ?_
    refine rn ?_
    refine .gh (Gh.keep [2, 3, 5, 7] rfl) ?_
    refine .seq ?_
    refine cndt ?_
    refine .skip ?_
    show AW _ _ _ _ _ _
    refine .block ?_
    refine .region ?_
    refine vk (vmvd) ?_
    refine vk (vbi) ?_
    refine asd ?_
    refine .nil ?_
    refine AL.gh (Gh.keep [2, 3, 5] rfl) ?_
    exact ih (k, (w64 (s1 + 1)), (rnext a0 s2)) h (Nat.lt_succ_self _)
  replace h := ite_f hc h
  refine nxe ?_ hc
  refine vk (vex) ?_
  refine rn ?_
  refine .gh (Gh.keep [2, 3, 5, 7] rfl) ?_
  refine .seq ?_
  refine cndf ?_
  refine .exit ?_
  show AW _ _ _ _ _ _
  refine .seq ?_
  refine .region ?_
  refine vk (vmvd) ?_
  refine asd ?_
  refine rn ?_
  refine .gh (Gh.keep [2] rfl) ?_
  refine .ret ?_
  cases h
  exact ⟨rfl, rfl⟩

def report_number (a0 : Int) : Option (ByteArray) := ((ratOfInt a0).bind fun x1 => ((rat_Print x1).bind fun x2 => (some (x2))))
theorem report_number_ok {a0 : Int} {r : ByteArray} (h : report_number a0 = some r) :
    Fn Try.prog 73 [.i .i64 a0] (.d (.s r)) := by
  unfold report_number at h
  refine Fn.of (rs := [.tmp 2]) (nt := 6) Try.func73 rfl rfl rfl (by simp) rfl ?_
  refine .seq ?_
  refine .region ?_
  refine asd ?_
  refine rn ?_
  refine .gh (Gh.keep [0, 2] rfl) ?_
  refine .seq ?_
  refine .region ?_
  refine vk (vmvd) ?_
  obtain ⟨x1, hx1, h⟩ := bnd h
  refine vk (vcl0 (ratOfInt_ok hx1) Try.call64) ?_
  obtain ⟨x2, hx2, h⟩ := bnd h
  refine vk (vcl0 (rat_Print_ok hx2) Try.call110) ?_
  refine asd ?_
  refine rn ?_
  refine .gh (Gh.keep [2] rfl) ?_
  refine .ret ?_
  cases h
  exact ⟨rfl, rfl⟩

def report_Text (a0 : Int) : Option (ByteArray) := ((repWord a0).bind fun x1 => (if a0 = 0 then (some ((⟨#[]⟩ : ByteArray))) else (if a0 = 9 then (some ((⟨#[73, 78, 84, 69, 82, 82, 85, 80, 84]⟩ : ByteArray))) else (if x1 = (⟨#[]⟩ : ByteArray) then ((report_number a0).bind fun x2 => ((sap? (⟨#[69, 82, 82, 79, 82, 32]⟩ : ByteArray) x2).bind fun x3 => (some (x3)))) else ((sap? x1 (⟨#[32, 69, 82, 82, 79, 82]⟩ : ByteArray)).bind fun x4 => (some (x4)))))))
theorem report_Text_ok {a0 : Int} {r : ByteArray} (h : report_Text a0 = some r) :
    Fn Try.prog 44 [.i .i64 a0] (.d (.s r)) := by
  unfold report_Text at h
  refine Fn.of (rs := [.tmp 2]) (nt := 20) Try.func44 rfl rfl rfl (by simp) rfl ?_
  refine .seq ?_
  refine .region ?_
  refine asd ?_
  refine rn ?_
  refine .gh (Gh.keep [0, 2] rfl) ?_
  refine .seq ?_
  refine .seq ?_
  refine .region ?_
  refine vk (vmvd) ?_
  obtain ⟨x1, hx1, h⟩ := bnd h
  refine vk (vcl0 (repWord_ok hx1) Try.call86) ?_
  refine asd ?_
  refine rn ?_
  refine .gh (Gh.keep [0, 2, 3] rfl) ?_
  refine .block ?_
  refine .seq ?_
  refine .region ?_
  refine vk (vmvd) ?_
  refine vk (vbi) ?_
  refine asd ?_
  refine rn ?_
  refine .gh (Gh.keep [0, 2, 3, 6] rfl) ?_
  by_cases hc : a0 = 0
  · replace h := ite_t hc h
    refine cnt (decide_eq_true hc) ?_
    refine .seq ?_
    refine .region ?_
    refine asd ?_
    refine rn ?_
    refine .gh (Gh.keep [0, 2] rfl) ?_
    refine .ret ?_
    cases h
    exact ⟨rfl, rfl⟩
  replace h := ite_f hc h
  refine cnf (decide_eq_false hc) ?_
  refine .seq ?_
  refine .region ?_
  refine vk (vmvd) ?_
  refine vk (vbi) ?_
  refine asd ?_
  refine rn ?_
  refine .gh (Gh.keep [0, 2, 3, 9] rfl) ?_
  by_cases hc : a0 = 9
  · replace h := ite_t hc h
    refine cnt (decide_eq_true hc) ?_
    refine .seq ?_
    refine .region ?_
    refine asd ?_
    refine rn ?_
    refine .gh (Gh.keep [0, 2] rfl) ?_
    refine .ret ?_
    cases h
    exact ⟨rfl, rfl⟩
  replace h := ite_f hc h
  refine cnf (decide_eq_false hc) ?_
  refine .seq ?_
  refine .region ?_
  refine vk (vmvd) ?_
  refine vk (vsq (.inr rfl)) ?_
  refine asd ?_
  refine rn ?_
  refine .gh (Gh.keep [0, 2, 3, 12] rfl) ?_
  by_cases hc : x1 = (⟨#[]⟩ : ByteArray)
  · replace h := ite_t hc h
    refine cnf (ntf (decide_eq_true hc)) ?_
    refine .skip ?_
    show AW _ _ _ _ _ _
    refine .seq ?_
    refine .region ?_
    refine vk (vmvd) ?_
    obtain ⟨x2, hx2, h⟩ := bnd h
    refine vk (vcl0 (report_number_ok hx2) Try.call73) ?_
    obtain ⟨x3, hx3, h⟩ := bnd h
    refine vk (vsa hx3) ?_
    refine asd ?_
    refine rn ?_
    refine .gh (Gh.keep [2] rfl) ?_
    refine .ret ?_
    cases h
    exact ⟨rfl, rfl⟩
  replace h := ite_f hc h
  refine cnt (ntt (decide_eq_false hc)) ?_
  refine .seq ?_
  refine .region ?_
  refine vk (vmvd) ?_
  obtain ⟨x4, hx4, h⟩ := bnd h
  refine vk (vsa hx4) ?_
  refine asd ?_
  refine rn ?_
  refine .gh (Gh.keep [0, 2] rfl) ?_
  refine .ret ?_
  cases h
  exact ⟨rfl, rfl⟩

def report_Prefix (a0 : WT) : Option (ByteArray) := (if a0.1 = (⟨#[]⟩ : ByteArray) then ((sRepeat (⟨#[32]⟩ : ByteArray) 6).bind fun x1 => (some (x1))) else ((sap? a0.1 (⟨#[91]⟩ : ByteArray)).bind fun x2 => ((report_number a0.2.1).bind fun x3 => ((sap? x2 x3).bind fun x4 => ((sap? x4 (⟨#[93, 32]⟩ : ByteArray)).bind fun x5 => (some (x5)))))))
theorem report_Prefix_ok {a0 : WT} {r : ByteArray} (h : report_Prefix a0 = some r) :
    Fn Try.prog 30 [.ag [.s a0.1, .i .i64 a0.2.1, .s a0.2.2.1, .i .i64 a0.2.2.2]] (.d (.s r)) := by
  unfold report_Prefix at h
  refine Fn.of (rs := [.tmp 2]) (nt := 15) Try.func30 rfl rfl rfl (by simp) rfl ?_
  refine .seq ?_
  refine .region ?_
  refine vk (vbx) ?_
  refine asd ?_
  refine rn ?_
  refine .gh (Gh.keep [1, 2] rfl) ?_
  refine .seq ?_
  refine .seq ?_
  refine .region ?_
  refine vk (vfa gF_W_0) ?_
  refine vk (vldp ga_string) ?_
  refine vk (vsq (.inl rfl)) ?_
  refine rn ?_
  refine .gh (Gh.keep [1, 2, 5] rfl) ?_
  by_cases hc : a0.1 = (⟨#[]⟩ : ByteArray)
  · replace h := ite_t hc h
    refine cnt (decide_eq_true hc) ?_
    refine .seq ?_
    refine .region ?_
    obtain ⟨x1, hx1, h⟩ := bnd h
    refine vk (vcl0 (sRepeat_ok hx1) Try.call72) ?_
    refine asd ?_
    refine rn ?_
    refine .gh (Gh.keep [1, 2] rfl) ?_
    refine .ret ?_
    cases h
    exact ⟨rfl, rfl⟩
  replace h := ite_f hc h
  refine cnf (decide_eq_false hc) ?_
  refine .skip ?_
  show AW _ _ _ _ _ _
  refine .seq ?_
  refine .drawn 8 mixed (by kernel_rfl) ?_
  refine dv (vfa gF_W_0) ?_
  refine dv (vldp ga_string) ?_
  obtain ⟨x2, hx2, h⟩ := bnd h
  refine dv (vsa hx2) ?_
  refine dv (vfa gF_W_1) ?_
  refine dv (vldp ga_int) ?_
  obtain ⟨x3, hx3, h⟩ := bnd h
  refine dv (vcl0 (report_number_ok hx3) Try.call73) ?_
  obtain ⟨x4, hx4, h⟩ := bnd h
  refine dv (vsa hx4) ?_
  obtain ⟨x5, hx5, h⟩ := bnd h
  refine dv (vsa hx5) ?_
  refine dz ?_
  refine asd ?_
  refine rn ?_
  refine .gh (Gh.keep [2] rfl) ?_
  refine .ret ?_
  cases h
  exact ⟨rfl, rfl⟩

def report_Lines (a0 : Int) (a1 : WT) : Option ((List ByteArray)) := (if a0 = 0 then (some ([])) else ((report_width a1.2.2.1).bind fun x1 => ((report_Prefix a1).bind fun x2 => ((report_Text a0).bind fun x3 => ((sap? x2 a1.2.2.1).bind fun x4 => ((report_width x2).bind fun x5 => ((sRepeat (⟨#[32]⟩ : ByteArray) (w64 (x5 + (if (if x1 < a1.2.2.2 then x1 else a1.2.2.2) < 0 then 0 else (if x1 < a1.2.2.2 then x1 else a1.2.2.2))))).bind fun x6 => ((sap? x6 (⟨#[94]⟩ : ByteArray)).bind fun x7 => (some ([x3, x4, x7]))))))))))
theorem report_Lines_ok {a0 : Int} {a1 : WT} {r : (List ByteArray)} (h : report_Lines a0 a1 = some r) :
    Fn Try.prog 27 [.i .i64 a0, .ag [.s a1.1, .i .i64 a1.2.1, .s a1.2.2.1, .i .i64 a1.2.2.2]] (.d (.sl (Ss r))) := by
  unfold report_Lines at h
  refine Fn.of (rs := [.tmp 4]) (nt := 31) Try.func27 rfl rfl rfl (by simp) rfl ?_
  refine .seq ?_
  refine .region ?_
  refine vk (vbx) ?_
  refine asn ?_
  refine rn ?_
  refine .gh (Gh.keep [0, 3, 4] rfl) ?_
  refine .seq ?_
  refine .seq ?_
  refine .region ?_
  refine vk (vmvd) ?_
  refine vk (vbi) ?_
  refine rn ?_
  refine .gh (Gh.keep [0, 3, 4, 8] rfl) ?_
  by_cases hc : a0 = 0
  · replace h := ite_t hc h
    refine cnt (decide_eq_true hc) ?_
    refine .seq ?_
    refine .region ?_
    refine asn ?_
    refine rn ?_
    refine .gh (Gh.keep [0, 3, 4] rfl) ?_
    refine .gh (Gh.nlD (t := 4) rfl) ?_
    refine .ret ?_
    cases h
    exact ⟨rfl, rfl⟩
  replace h := ite_f hc h
  refine cnf (decide_eq_false hc) ?_
  refine .skip ?_
  show AW _ _ _ _ _ _
  refine .seq ?_
  refine .drawn 7 mixed (by kernel_rfl) ?_
  refine dv (vfa gF_W_3) ?_
  refine dv (vldp ga_int) ?_
  refine dv (vfa gF_W_2) ?_
  refine dv (vldp ga_string) ?_
  obtain ⟨x1, hx1, h⟩ := bnd h
  refine dv (vcl0 (report_width_ok hx1) Try.call71) ?_
  refine dv (vmn) ?_
  refine dv (vmx) ?_
  refine dz ?_
  refine asd ?_
  refine rn ?_
  refine .gh (Gh.keep [0, 3, 4, 5] rfl) ?_
  refine .seq ?_
  refine .region ?_
  refine vk (vlda gA_W gS_W) ?_
  obtain ⟨x2, hx2, h⟩ := bnd h
  refine vk (vcl0 (report_Prefix_ok hx2) Try.call30) ?_
  refine asd ?_
  refine rn ?_
  refine .gh (Gh.keep [0, 3, 4, 5, 6] rfl) ?_
  refine .seq ?_
  refine .drawn 13 mixed (by kernel_rfl) ?_
  refine dv (vmvd) ?_
  obtain ⟨x3, hx3, h⟩ := bnd h
  refine dv (vcl0 (report_Text_ok hx3) Try.call44) ?_
  refine dv (vmvd) ?_
  refine dv (vfa gF_W_2) ?_
  refine dv (vldp ga_string) ?_
  obtain ⟨x4, hx4, h⟩ := bnd h
  refine dv (vsa hx4) ?_
  refine dv (vmvd) ?_
  obtain ⟨x5, hx5, h⟩ := bnd h
  refine dv (vcl0 (report_width_ok hx5) Try.call71) ?_
  refine dv (vmvd) ?_
  refine dv (vbi) ?_
  obtain ⟨x6, hx6, h⟩ := bnd h
  refine dv (vcl0 (sRepeat_ok hx6) Try.call72) ?_
  obtain ⟨x7, hx7, h⟩ := bnd h
  refine dv (vsa hx7) ?_
  refine dv ((vbsl (Ss_flat [x3, x4, x7]) ge_Ss).deep) ?_
  refine dz ?_
  refine asd ?_
  refine rn ?_
  refine .gh (Gh.keep [4] rfl) ?_
  refine .ret ?_
  cases h
  exact ⟨rfl, rfl⟩

def report_Parse_l0 (a0 : ByteArray) : Nat → Int → Bool → Int → Option (Int × Bool)
  | 0, _, _, _ => none
  | k + 1, s1, s2, s3 => (if s3 ≤ 28 then ((report_Text s3).bind fun x4 => (if ((decide (a0 = x4)) && ((decide (s3 ≤ 9)) || (decide (s3 = 28)))) = true then (some (s3, true)) else (report_Parse_l0 a0 k s1 s2 (w64 (s3 + 1))))) else (some (0, false)))
def report_Parse (a0 : ByteArray) : Option (Int × Bool) := (report_Parse_l0 a0 FUEL 0 false 1)
theorem report_Parse_ok {a0 : ByteArray} {r : Int × Bool} (h : report_Parse a0 = some r) :
    Fn Try.prog 42 [.s a0] (.tup [.d (.i .i64 r.1), .d (.b r.2)]) := by
  unfold report_Parse at h
  refine Fn.of (rs := [.tmp 2, .tmp 3]) (nt := 22) Try.func42 rfl rfl rfl (by simp) rfl ?_
  refine .seq ?_
  refine .region ?_
  refine asd ?_
  refine asd ?_
  refine rn ?_
  refine .gh (Gh.keep [0, 2, 3] rfl) ?_
  refine .seq ?_
  refine .seq ?_
  refine .region ?_
  refine asd ?_
  refine rn ?_
  refine .gh (Gh.keep [0, 2, 3, 4] rfl) ?_
  refine .block ?_
  refine .loop (.gh (Gh.keep [0, 2, 3, 4] rfl) ?_)
  refine AL.ind (σ := Nat × Int × Bool × Int) (m := fun p => p.1) (e := fun p => [(0, .d (.s a0)), (2, .d (.i .i64 p.2.1)), (3, .d (.b p.2.2.1)), (4, .d (.i .i64 p.2.2.2))]) (h := fun p => []) (I := fun p => report_Parse_l0 a0 p.1 p.2.1 p.2.2.1 p.2.2.2 = some r) ?_ (FUEL, 0, false, 1) h
  rintro ⟨k, s1, s2, s3⟩ h ih
  dsimp only at h ih ⊢
  rcases k with _ | k
  · rw [report_Parse_l0] at h; cases h
  rw [report_Parse_l0] at h
  refine .seq ?_
  refine .seq ?_
  refine .region ?_
  refine vk (vmvd) ?_
  refine vk (vbi) ?_
  refine rn ?_
  refine .gh (Gh.keep [0, 2, 3, 4, 6] rfl) ?_
  by_cases hc : s3 ≤ 28
  · replace h := ite_t hc h
    refine cnt (decide_eq_true hc) ?_
    refine .skip ?_
    show AW _ _ _ _ _ _
    refine .seq ?_
    refine .block ?_
    refine .seq ?_
    obtain ⟨x4, hx4, h⟩ := bnd h
    refine AW.mr (σ := Unit) (fun _ => True) (fun _ => [(0, .d (.s a0)), (2, .d (.i .i64 s1)), (3, .d (.b s2)), (4, .d (.i .i64 s3)), (20, .d (.b ((decide (a0 = x4)) && ((decide (s3 ≤ 9)) || (decide (s3 = 28))))))]) (fun _ => []) ?_ ?_
    · skip
      refine .region ?_
      refine vk (vmvd) ?_
      refine vk (vmvd) ?_
      refine vk (vcl0 (report_Text_ok hx4) Try.call44) ?_
      refine vk (vsq (.inl rfl)) ?_
      by_cases hc : a0 = x4
      · have hb0 : (decide (a0 = x4)) = true := (decide_eq_true hc)
        refine vk (VOK.lit (vmvd) hb0) ?_
        refine vk (vmvd) ?_
        refine vk (vbi) ?_
        by_cases hc : s3 ≤ 9
        · have hb1 : (decide (s3 ≤ 9)) = true := (decide_eq_true hc)
          refine vk (VOK.lit (vmvd) hb1) ?_
          refine gf ?_
          refine gf ?_
          refine vk (vpkd) ?_
          refine vk (vpkd) ?_
          refine RL.gh (Gh.keep [0, 2, 3, 4, 20] rfl) ?_
          refine .nil ?_
          exact jr () trivial (by simp only [hb0, hb1]; rfl)
        have hb1 : (decide (s3 ≤ 9)) = false := (decide_eq_false hc)
        refine vk (VOK.lit (vmvd) hb1) ?_
        refine vk (vmvd) ?_
        refine vk (vbi) ?_
        refine vk (vpkd) ?_
        refine vk (vpkd) ?_
        refine RL.gh (Gh.keep [0, 2, 3, 4, 20] rfl) ?_
        refine .nil ?_
        exact jr () trivial (by simp only [hb0, hb1]; rfl)
      have hb0 : (decide (a0 = x4)) = false := (decide_eq_false hc)
      refine vk (VOK.lit (vmvd) hb0) ?_
      refine gf ?_
      refine gf ?_
      refine gfu ?_
      refine gf ?_
      refine gf ?_
      refine gf ?_
      refine vk (vpkd) ?_
      refine RL.gh (Gh.keep [0, 2, 3, 4, 20] rfl) ?_
      refine .nil ?_
      exact jr () trivial (by simp only [hb0]; rfl)
    rintro _ _
    by_cases hc : ((decide (a0 = x4)) && ((decide (s3 ≤ 9)) || (decide (s3 = 28)))) = true
    · replace h := ite_t hc h
      refine cnt hc ?_
      refine .seq ?_
      refine .region ?_
      refine vk (vmvd) ?_
      refine asd ?_
      refine asd ?_
      refine rn ?_
      refine .gh (Gh.keep [0, 2, 3, 4] rfl) ?_
      refine .ret ?_
      cases h
      exact ⟨by decide, rfl, rfl, rfl⟩
    replace h := ite_f hc h
    refine cnf (bf hc) ?_
    refine .skip ?_
    show AW _ _ _ _ _ _
    refine .region ?_
    refine vk (vmvd) ?_
    refine vk (vbi) ?_
    refine asd ?_
    refine .nil ?_
    refine AL.gh (Gh.keep [0, 2, 3, 4] rfl) ?_
    exact ih (k, s1, s2, (w64 (s3 + 1))) h (Nat.lt_succ_self _)
  replace h := ite_f hc h
  refine cnf (decide_eq_false hc) ?_
  refine .exit ?_
  show AW _ _ _ _ _ _
  refine .seq ?_
  refine .region ?_
  refine asd ?_
  refine asd ?_
  refine rn ?_
  refine .gh (Gh.keep [2, 3] rfl) ?_
  refine .ret ?_
  cases h
  exact ⟨by decide, rfl, rfl, rfl⟩
end Go.FL
/-
  GP: the report, the reference.
-/
namespace Go.FL
open Go Go.Proofs

def ref14_number (a0 : Int) : Option (ByteArray) := ((ref02_OfInt a0).bind fun x1 => ((ref02_Print x1).bind fun x2 => (some (x2))))
theorem ref14_number_ok {a0 : Int} {r : ByteArray} (h : ref14_number a0 = some r) :
    Fn Try.prog 74 [.i .i64 a0] (.d (.s r)) := by
  unfold ref14_number at h
  refine Fn.of (rs := [.tmp 2]) (nt := 6) Try.func74 rfl rfl rfl (by simp) rfl ?_
  refine .seq ?_
  refine .region ?_
  refine asd ?_
  refine rn ?_
  refine .gh (Gh.keep [0, 2] rfl) ?_
  refine .seq ?_
  refine .region ?_
  refine vk (vmvd) ?_
  obtain ⟨x1, hx1, h⟩ := bnd h
  refine vk (vcl0 (ref02_OfInt_ok hx1) Try.call79) ?_
  obtain ⟨x2, hx2, h⟩ := bnd h
  refine vk (vcl0 (ref02_Print_ok hx2) Try.call111) ?_
  refine asd ?_
  refine rn ?_
  refine .gh (Gh.keep [2] rfl) ?_
  refine .ret ?_
  cases h
  exact ⟨rfl, rfl⟩

def ref14_words : Option ((List ByteArray)) := (some ([(⟨#[]⟩ : ByteArray), (⟨#[83, 89, 78, 84, 65, 88, 32, 69, 82, 82, 79, 82]⟩ : ByteArray), (⟨#[86, 65, 76, 85, 69, 32, 69, 82, 82, 79, 82]⟩ : ByteArray), (⟨#[68, 79, 77, 65, 73, 78, 32, 69, 82, 82, 79, 82]⟩ : ByteArray), (⟨#[82, 65, 78, 75, 32, 69, 82, 82, 79, 82]⟩ : ByteArray), (⟨#[76, 69, 78, 71, 84, 72, 32, 69, 82, 82, 79, 82]⟩ : ByteArray), (⟨#[73, 78, 68, 69, 88, 32, 69, 82, 82, 79, 82]⟩ : ByteArray), (⟨#[65, 88, 73, 83, 32, 69, 82, 82, 79, 82]⟩ : ByteArray), (⟨#[76, 73, 77, 73, 84, 32, 69, 82, 82, 79, 82]⟩ : ByteArray), (⟨#[73, 78, 84, 69, 82, 82, 85, 80, 84]⟩ : ByteArray)]))
theorem ref14_words_ok {r : (List ByteArray)} (h : ref14_words = some r) :
    Fn Try.prog 85 [] (.d (.sl (Ss r))) := by
  unfold ref14_words at h
  refine Fn.of (rs := [.tmp 0]) (nt := 2) Try.func85 rfl rfl rfl (by simp) rfl ?_
  refine .seq ?_
  refine .region ?_
  refine asn ?_
  refine rn ?_
  refine .gh (Gh.keep [0] rfl) ?_
  refine .seq ?_
  refine .region ?_
  refine vk ((vbsl (Ss_flat [(⟨#[]⟩ : ByteArray), (⟨#[83, 89, 78, 84, 65, 88, 32, 69, 82, 82, 79, 82]⟩ : ByteArray), (⟨#[86, 65, 76, 85, 69, 32, 69, 82, 82, 79, 82]⟩ : ByteArray), (⟨#[68, 79, 77, 65, 73, 78, 32, 69, 82, 82, 79, 82]⟩ : ByteArray), (⟨#[82, 65, 78, 75, 32, 69, 82, 82, 79, 82]⟩ : ByteArray), (⟨#[76, 69, 78, 71, 84, 72, 32, 69, 82, 82, 79, 82]⟩ : ByteArray), (⟨#[73, 78, 68, 69, 88, 32, 69, 82, 82, 79, 82]⟩ : ByteArray), (⟨#[65, 88, 73, 83, 32, 69, 82, 82, 79, 82]⟩ : ByteArray), (⟨#[76, 73, 77, 73, 84, 32, 69, 82, 82, 79, 82]⟩ : ByteArray), (⟨#[73, 78, 84, 69, 82, 82, 85, 80, 84]⟩ : ByteArray)]) ge_Ss).deep) ?_
  refine asd ?_
  refine rn ?_
  refine .gh (Gh.keep [0] rfl) ?_
  refine .ret ?_
  cases h
  exact ⟨rfl, rfl⟩

def ref14_Text (a0 : Int) : Option (ByteArray) := (Option.bind ((if 0 ≤ a0 then (ref14_words.bind fun x2 => (some (decide (a0 < ((List.length x2 : Nat) : Int))))) else (some false)) : Option (Bool)) fun (z1 : Bool) => (if z1 = true then (ref14_words.bind fun x3 => ((rd? x3 a0).bind fun x4 => (some (x4)))) else (if a0 = 28 then (some ((⟨#[68, 69, 70, 78, 32, 69, 82, 82, 79, 82]⟩ : ByteArray))) else ((ref14_number a0).bind fun x5 => ((sap? (⟨#[69, 82, 82, 79, 82, 32]⟩ : ByteArray) x5).bind fun x6 => (some (x6)))))))
theorem ref14_Text_ok {a0 : Int} {r : ByteArray} (h : ref14_Text a0 = some r) :
    Fn Try.prog 45 [.i .i64 a0] (.d (.s r)) := by
  unfold ref14_Text at h
  refine Fn.of (rs := [.tmp 2]) (nt := 20) Try.func45 rfl rfl rfl (by simp) rfl ?_
  refine .seq ?_
  refine .region ?_
  refine asd ?_
  refine rn ?_
  refine .gh (Gh.keep [0, 2] rfl) ?_
  refine .seq ?_
  refine .seq ?_
  obtain ⟨z1, hz, h⟩ := bnd h
  refine AW.mr (σ := Unit) (fun _ => True) (fun _ => [(0, .d (.i .i64 a0)), (2, .d (.s (⟨#[]⟩ : ByteArray))), (10, .d (.b z1))]) (fun _ => []) ?_ ?_
  · skip
    refine .region ?_
    refine vk (vmvd) ?_
    refine vk (vbi) ?_
    by_cases hc : 0 ≤ a0
    · replace hz := ite_t hc hz
      have hb0 : (decide (0 ≤ a0)) = true := (decide_eq_true hc)
      refine vk (VOK.lit (vmvd) hb0) ?_
      refine vk (vmvd) ?_
      obtain ⟨x2, hx2, hz⟩ := bnd hz
      refine vk (vcl0 (ref14_words_ok hx2) Try.call85) ?_
      refine vk (vlnE (Ss_length _) (Ss_sz _) gu_Ss) ?_
      refine vk (vbi) ?_
      refine vk (vpkd) ?_
      refine RL.gh (Gh.keep [0, 2, 10] rfl) ?_
      refine .nil ?_
      cases hz
      exact jr () trivial
    replace hz := ite_f hc hz
    have hb0 : (decide (0 ≤ a0)) = false := (decide_eq_false hc)
    refine vk (VOK.lit (vmvd) hb0) ?_
    refine gf ?_
    refine gf ?_
    refine gf ?_
    refine gf ?_
    refine vk (vpkd) ?_
    refine RL.gh (Gh.keep [0, 2, 10] rfl) ?_
    refine .nil ?_
    cases hz
    exact jr () trivial
  rintro _ _
  by_cases hc : z1 = true
  · replace h := ite_t hc h
    refine cnt hc ?_
    refine .seq ?_
    refine .region ?_
    obtain ⟨x3, hx3, h⟩ := bnd h
    refine vk (vcl0 (ref14_words_ok hx3) Try.call85) ?_
    refine vk (vmvd) ?_
    obtain ⟨x4, hx4, h⟩ := bnd h
    obtain ⟨nx4, hnx4, hxx4⟩ := rd_some hx4
    refine vk (vix nx4 hnx4 (Ss_at hxx4) rfl gs_Ss) ?_
    refine vk (vldp ga_string) ?_
    refine asd ?_
    refine rn ?_
    refine .gh (Gh.keep [0, 2] rfl) ?_
    refine .ret ?_
    cases h
    exact ⟨rfl, rfl⟩
  replace h := ite_f hc h
  refine cnf (bf hc) ?_
  refine .skip ?_
  show AW _ _ _ _ _ _
  refine .seq ?_
  refine .seq ?_
  refine .region ?_
  refine vk (vmvd) ?_
  refine vk (vbi) ?_
  refine rn ?_
  refine .gh (Gh.keep [0, 2, 16] rfl) ?_
  by_cases hc : a0 = 28
  · replace h := ite_t hc h
    refine cnt (decide_eq_true hc) ?_
    refine .seq ?_
    refine .region ?_
    refine asd ?_
    refine rn ?_
    refine .gh (Gh.keep [0, 2] rfl) ?_
    refine .ret ?_
    cases h
    exact ⟨rfl, rfl⟩
  replace h := ite_f hc h
  refine cnf (decide_eq_false hc) ?_
  refine .skip ?_
  show AW _ _ _ _ _ _
  refine .seq ?_
  refine .region ?_
  refine vk (vmvd) ?_
  obtain ⟨x5, hx5, h⟩ := bnd h
  refine vk (vcl0 (ref14_number_ok hx5) Try.call74) ?_
  obtain ⟨x6, hx6, h⟩ := bnd h
  refine vk (vsa hx6) ?_
  refine asd ?_
  refine rn ?_
  refine .gh (Gh.keep [2] rfl) ?_
  refine .ret ?_
  cases h
  exact ⟨rfl, rfl⟩

def ref14_Parse_l0 (a0 : ByteArray) (x1 : (List ByteArray)) : Nat → Int → Bool → Int → Option (Int × Bool)
  | 0, _, _, _ => none
  | k + 1, s2, s3, s4 => (if s4 < ((List.length x1 : Nat) : Int) then ((rd? x1 s4).bind fun x5 => (if x5 = a0 then (some (s4, true)) else (ref14_Parse_l0 a0 x1 k s2 s3 (w64 (s4 + 1))))) else (if a0 = (⟨#[68, 69, 70, 78, 32, 69, 82, 82, 79, 82]⟩ : ByteArray) then (some (28, true)) else (some (0, false))))
def ref14_Parse (a0 : ByteArray) : Option (Int × Bool) := (ref14_words.bind fun x1 => (ref14_Parse_l0 a0 x1 FUEL 0 false 1))
theorem ref14_Parse_ok {a0 : ByteArray} {r : Int × Bool} (h : ref14_Parse a0 = some r) :
    Fn Try.prog 43 [.s a0] (.tup [.d (.i .i64 r.1), .d (.b r.2)]) := by
  unfold ref14_Parse at h
  refine Fn.of (rs := [.tmp 2, .tmp 3]) (nt := 22) Try.func43 rfl rfl rfl (by simp) rfl ?_
  refine .seq ?_
  refine .region ?_
  refine asd ?_
  refine asd ?_
  refine rn ?_
  refine .gh (Gh.keep [0, 2, 3] rfl) ?_
  refine .seq ?_
  refine .region ?_
  obtain ⟨x1, hx1, h⟩ := bnd h
  refine vk (vcl0 (ref14_words_ok hx1) Try.call85) ?_
  refine asd ?_
  refine rn ?_
  refine .gh (Gh.keep [0, 2, 3, 4] rfl) ?_
  refine .seq ?_
  refine .seq ?_
  refine .region ?_
  refine asd ?_
  refine rn ?_
  refine .gh (Gh.keep [0, 2, 3, 4, 5] rfl) ?_
  refine .block ?_
  refine .loop (.gh (Gh.keep [0, 2, 3, 4, 5] rfl) ?_)
  refine AL.ind (σ := Nat × Int × Bool × Int) (m := fun p => p.1) (e := fun p => [(0, .d (.s a0)), (2, .d (.i .i64 p.2.1)), (3, .d (.b p.2.2.1)), (4, .d (.sl (Ss x1))), (5, .d (.i .i64 p.2.2.2))]) (h := fun p => []) (I := fun p => ref14_Parse_l0 a0 x1 p.1 p.2.1 p.2.2.1 p.2.2.2 = some r) ?_ (FUEL, 0, false, 1) h
  rintro ⟨k, s2, s3, s4⟩ h ih
  dsimp only at h ih ⊢
  rcases k with _ | k
  · rw [ref14_Parse_l0] at h; cases h
  rw [ref14_Parse_l0] at h
  refine .seq ?_
  refine .seq ?_
  refine .region ?_
  refine vk (vmvd) ?_
  refine vk (vmvd) ?_
  refine vk (vlnE (Ss_length _) (Ss_sz _) gu_Ss) ?_
  refine vk (vbi) ?_
  refine rn ?_
  refine .gh (Gh.keep [0, 2, 3, 4, 5, 10] rfl) ?_
  by_cases hc : s4 < ((List.length x1 : Nat) : Int)
  · replace h := ite_t hc h
    refine cnt (decide_eq_true hc) ?_
    refine .skip ?_
    show AW _ _ _ _ _ _
    refine .seq ?_
    refine .block ?_
    refine .seq ?_
    refine .region ?_
    refine vk (vmvd) ?_
    refine vk (vmvd) ?_
    obtain ⟨x5, hx5, h⟩ := bnd h
    obtain ⟨nx5, hnx5, hxx5⟩ := rd_some hx5
    refine vk (vix nx5 hnx5 (Ss_at hxx5) rfl gs_Ss) ?_
    refine vk (vldp ga_string) ?_
    refine vk (vmvd) ?_
    refine vk (vsq (.inl rfl)) ?_
    refine rn ?_
    refine .gh (Gh.keep [0, 2, 3, 4, 5, 18] rfl) ?_
    by_cases hc : x5 = a0
    · replace h := ite_t hc h
      refine cnt (decide_eq_true hc) ?_
      refine .seq ?_
      refine .region ?_
      refine vk (vmvd) ?_
      refine asd ?_
      refine asd ?_
      refine rn ?_
      refine .gh (Gh.keep [0, 2, 3, 4, 5] rfl) ?_
      refine .ret ?_
      cases h
      exact ⟨by decide, rfl, rfl, rfl⟩
    replace h := ite_f hc h
    refine cnf (decide_eq_false hc) ?_
    refine .skip ?_
    show AW _ _ _ _ _ _
    refine .region ?_
    refine vk (vmvd) ?_
    refine vk (vbi) ?_
    refine asd ?_
    refine .nil ?_
    refine AL.gh (Gh.keep [0, 2, 3, 4, 5] rfl) ?_
    exact ih (k, s2, s3, (w64 (s4 + 1))) h (Nat.lt_succ_self _)
  replace h := ite_f hc h
  refine cnf (decide_eq_false hc) ?_
  refine .exit ?_
  show AW _ _ _ _ _ _
  refine .seq ?_
  refine .seq ?_
  refine .region ?_
  refine vk (vmvd) ?_
  refine vk (vsq (.inl rfl)) ?_
  refine rn ?_
  refine .gh (Gh.keep [2, 3, 21] rfl) ?_
  by_cases hc : a0 = (⟨#[68, 69, 70, 78, 32, 69, 82, 82, 79, 82]⟩ : ByteArray)
  · replace h := ite_t hc h
    refine cnt (decide_eq_true hc) ?_
    refine .seq ?_
    refine .region ?_
    refine asd ?_
    refine asd ?_
    refine rn ?_
    refine .gh (Gh.keep [2, 3] rfl) ?_
    refine .ret ?_
    cases h
    exact ⟨by decide, rfl, rfl, rfl⟩
  replace h := ite_f hc h
  refine cnf (decide_eq_false hc) ?_
  refine .skip ?_
  show AW _ _ _ _ _ _
  refine .seq ?_
  refine .region ?_
  refine asd ?_
  refine asd ?_
  refine rn ?_
  refine .gh (Gh.keep [2, 3] rfl) ?_
  refine .ret ?_
  cases h
  exact ⟨by decide, rfl, rfl, rfl⟩

end Go.FL
